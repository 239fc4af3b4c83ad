/- A part of the proof: contracts of functions and plain laws; each theorem says its own conditions. -/
import Derived.Test.YtnmhlpnapgojjaaGreatDoorPrettyOwnK1
import Derived.Test.YtnmhlpnapgojjaaGreatDoorPrettyOwnK11
import Derived.Test.YtnmhlpnapgojjaaGreatDoorPrettyOwnK3
import Derived.Test.YtnmhlpnapgojjaaGreatDoorPrettyOwnK5
import Derived.Test.YtnmhlpnapgojjaaGreatDoorPrettyOwnK10
import Derived.Test.YtnmhlpnapgojjaaGreatDoorPrettyOwnK2
set_option linter.unusedVariables false
set_option linter.unusedSimpArgs false
namespace Go.Proofs.YtnmhlpnapgojjaaGreatDoor
open Go.RowKit Sx LexS _root_.Go.Proofs.Tryz
section
variable {S : Nat → Prop}
theorem zipA_lenT {α β : Type} {f : α → β → Bool} {a : List α} {b : List β} (h : zipA f a b = true) : a.length = b.length := by
  by_cases h1 : a.length = b.length
  · exact h1
  · rw [zipA_len h1] at h; cases h
theorem sameP_len {p q : Pg} (h : sameP p q = true) : p.threads.length = q.threads.length := by
  unfold sameP at h
  simp only [Bool.and_eq_true] at h
  exact zipA_lenT h.2

set_option maxHeartbeats 2000000 in
theorem rsamePg_any (p q : Pg) (hok : OkP p) (os ol ot os' ol' ot' : Option Addr) (cs cl ct cs' cl' ct' : Nat) (w : World) (hSh : DcRow w S os p.shared) (hL : DcRow w S ol p.locks) (hT : ThRow w S ot p.threads) (hSh' : DcRow w S os' q.shared) (hL' : DcRow w S ol' q.locks) (hT' : ThRow w S ot' q.threads) :
    Ret Tryz.prog 14 [.agg (pgL p os ol ot cs cl ct).toArray, .agg (pgL q os' ol' ot' cs' cl' ct').toArray] w fun v w' => v = .bool (sameP p q) ∧ Chg [] w w' := by
  refine ret_of [_, _] func14 rfl ntmps14 rfl ?_
  have st := St.init w []
  obtain ⟨w0, rfl⟩ : ∃ w0, w0 = w := ⟨_, rfl⟩
  have hn1 := hok.1.1
  have hn2 := hok.2.1.1
  have hn3 := hok.2.2.1
  refine vc_seq (vc_region ?_)
  refine vc_e (e_bx (l := [_, _, _]) st rfl rfl rfl rfl ?_)
  intro b2 w hb2 st
  refine vc_e (e_bx (l := [_, _, _]) st rfl rfl rfl rfl ?_)
  intro b3 w hb3 st
  refine ya ?_
  refine vc_end (vq_then (vk2 2 3 (vc_seq (vc_seq (vc_region ?_)))))
  refine vy (y_fa0 rfl underlying26 rfl rfl sizeOf23 rfl) ?_
  refine yl st 1 isAgg23 ?_
  refine vy (y_fa0 rfl underlying26 rfl rfl sizeOf23 rfl) ?_
  refine yl st 0 isAgg23 ?_
  refine vc_e (e_call [_, _] rfl rfl call44 rfl (rdeclsS_any p.shared q.shared _ _ _ _ _ (RowC.kept hSh (Same.of_nil st.chg)) (RowC.kept hSh' (Same.of_nil st.chg)) (by omega)) ?_)
  rintro _ w ⟨rfl, cw⟩
  replace st := st.call0 cw
  refine vy (y_not rfl) ?_
  refine vmb ?_ ?_
  · intro hg14
    try simp only [dn] at hg14
    iterate 6 refine vsk ?_
    refine ypt ?_
    refine ym ?_
    iterate 7 refine vsk ?_
    refine ypt ?_
    refine vc_end (vq_then (vk3 2 3 30 ?_))
    refine vc_ift rfl ?_
    refine vc_seq (vc_region ?_)
    refine ya ?_
    refine vc_end (vq_then (vk1 4 (vc_ret (vq_then_ret ?_))))
    refine vq_ret1 st (.inl rfl) results14 (.tmp rfl) ?_
    refine ⟨_, rfl, ?_⟩
    refine ⟨?_, st.chg⟩
    clear st
    unfold sameP
    (rw [‹zipA sameD p.shared q.shared = false›]; simp; done)
  · intro hg14
    try simp only [dn] at hg14
    refine yfz 1 underlying26 sizeOf23 ?_
    refine yl st 1 isAgg23 ?_
    refine yfz 1 underlying26 sizeOf23 ?_
    refine yl st 0 isAgg23 ?_
    refine vc_e (e_call [_, _] rfl rfl call44 rfl (rdeclsS_any p.locks q.locks _ _ _ _ _ (RowC.kept hL (Same.of_nil st.chg)) (RowC.kept hL' (Same.of_nil st.chg)) (by omega)) ?_)
    rintro _ w ⟨rfl, cw⟩
    replace st := st.call0 cw
    refine vy (y_not rfl) ?_
    refine ypf ?_
    refine vmb ?_ ?_
    · intro hg22
      try simp only [dn] at hg22
      iterate 7 refine vsk ?_
      refine ypt ?_
      refine vc_end (vq_then (vk3 2 3 30 ?_))
      refine vc_ift rfl ?_
      refine vc_seq (vc_region ?_)
      refine ya ?_
      refine vc_end (vq_then (vk1 4 (vc_ret (vq_then_ret ?_))))
      refine vq_ret1 st (.inl rfl) results14 (.tmp rfl) ?_
      refine ⟨_, rfl, ?_⟩
      refine ⟨?_, st.chg⟩
      clear st
      unfold sameP
      (rw [‹zipA sameD p.locks q.locks = false›]; simp; done)
    · intro hg22
      try simp only [dn] at hg22
      refine yfz 2 underlying26 sizeOf24 ?_
      refine yl st 1 isAgg24 ?_
      refine vy (y_lensl rfl underlying24) ?_
      refine yfz 2 underlying26 sizeOf24 ?_
      refine yl st 0 isAgg24 ?_
      refine vy (y_lensl rfl underlying24) ?_
      refine vy (y_nei rfl rfl) ?_
      refine ypf ?_
      refine vc_end (vq_then (vk3 2 3 30 ?_))
      refine vc_ifs rfl ?_ ?_
      · intro hc30
        try simp only [dn] at hc30
        refine vc_seq (vc_region ?_)
        refine ya ?_
        refine vc_end (vq_then (vk1 4 (vc_ret (vq_then_ret ?_))))
        refine vq_ret1 st (.inl rfl) results14 (.tmp rfl) ?_
        refine ⟨_, rfl, ?_⟩
        refine ⟨?_, st.chg⟩
        clear st
        unfold sameP
        (rw [zipA_len (f := sameT) (by omega)]; simp; done)
      · intro hc30
        try simp only [dn] at hc30
        have hlen : p.threads.length = q.threads.length := by omega
        refine vc_code_skip (vq_then (vk2 2 3 (vc_seq (vc_seq (vc_region ?_)))))
        refine yfz 2 underlying26 sizeOf24 ?_
        refine yl st 1 isAgg24 ?_
        refine vy (y_lensl rfl underlying24) ?_
        refine ym ?_
        refine vc_end (vq_then (vk4 2 3 33 34 (vc_block ?_)))
        refine vc_loop (w0 := w0) (M := []) (fun (j : Nat) => [(2, .pointer (some ⟨b2, 0, none⟩)), (3, .pointer (some ⟨b3, 0, none⟩)), (33, .int .i64 (p.threads.length : Int)), (34, .int .i64 (j : Int))]) (fun _ => [.blk b2 (.cells (pgL p os ol ot cs cl ct).toArray 26 (0, 0)), .blk b3 (.cells (pgL q os' ol' ot' cs' cl' ct').toArray 26 (0, 0))]) (fun j _ => j ≤ p.threads.length ∧ ∀ (i : Nat) x y, i < j → p.threads[i]? = some x → q.threads[i]? = some y → sameT x y = true) (fun j => p.threads.length - j) 0 ⟨rfl, rfl, rfl, rfl, trivial⟩ (st.pick [1, 0] rfl (by decide)) ⟨by omega, fun i x y h => by omega⟩ ?_
        clear st
        rintro j w ⟨hj, hall⟩ st
        refine vc_seq (vc_region ?_)
        refine vy (y_lss rfl rfl) ?_
        refine vc_end (vq_then (vk5 2 3 33 34 35 (vc_seq ?_)))
        refine vc_ifs rfl ?_ ?_
        · intro hc35
          try simp only [dn] at hc35
          have stK := st
          obtain ⟨x, hx⟩ : ∃ x, p.threads[j]? = some x := ⟨_, List.getElem?_eq_getElem (by omega)⟩
          obtain ⟨y, hy⟩ : ∃ y, q.threads[j]? = some y := ⟨_, List.getElem?_eq_getElem (by omega)⟩
          obtain ⟨gb, go, rfl, hgS, hgl, hg⟩ := ThRow.at hT (by omega)
          obtain ⟨fb, fo, rfl, hfS, hfl, hf⟩ := ThRow.at hT' (by omega)
          obtain ⟨tl, tb, cll, cbb, htl, htb, hc⟩ := hg j x hx
          obtain ⟨ul, ub, dll, dbb, hul, hub, hd⟩ := hf j y hy
          have hkx := hok.2.2.2 j x hx
          have st := stK
          clear stK
          refine vc_code_skip (vq_then (vk4 2 3 33 34 (vc_seq (vc_block (vc_seq (vc_region ?_))))))
          refine ym ?_
          refine ya ?_
          refine vc_end (vq_then (vk5 2 3 5 33 34 ?_))
          refine vc_cut (w0 := w0) (M := []) (fun (z : Nat × Nat) => [(2, .pointer (some ⟨b2, 0, none⟩)), (3, .pointer (some ⟨b3, 0, none⟩)), (6, .pointer (some ⟨z.1, 0, none⟩)), (7, .pointer (some ⟨z.2, 0, none⟩)), (33, .int .i64 (p.threads.length : Int)), (34, .int .i64 (j : Int))]) (fun z => [.blk b2 (.cells (pgL p os ol (some ⟨gb, go, none⟩) cs cl ct).toArray 26 (0, 0)), .blk b3 (.cells (pgL q os' ol' (some ⟨fb, fo, none⟩) cs' cl' ct').toArray 26 (0, 0)), .blk z.1 (.cells (thL x tl tb cll cbb).toArray 69 (0, 0)), .blk z.2 (.cells (thL y ul ub dll dbb).toArray 69 (0, 0))]) (fun _ _ => True) ?_ ?_
          ·
            refine vd_draw Tryz.mixed (.take 0 (.take 1 (.take 2 (.take 3 (.take 4 (.take 5 (.take 6 (.take 7 (.take 8 (.take 9 (.two 10 11 (.one 11 (.one 12 (.one 13 .done))) (.one 10 (.one 12 (.one 13 .done)))))))))))))) (fun w => St _ _ _ w) st (by kernel_rfl) (by repeat (first | exact okQ_body | refine okQ_then ?_ | refine okQ_block ?_)) rfl (by kernel_rfl) ?_
            intro w cd; replace st := st.call0 cd; clear cd
            have hS := st
            refine dfz hS 2 underlying26 sizeOf24 ?_
            refine dld hS 0 isAgg24 ?_
            refine dm hS ?_
            refine vd_take rfl rfl rfl hS (fun w st => y_ia (k := j) rfl rfl underlying24 sizeOf69 rfl (by omega)) ?_
            refine vd_take rfl rfl rfl hS (fun w st => y_ldca (thL x tl tb cll cbb) rfl isAgg69 sizeOf69 rfl (fun i v hi => st.chg.cell (hc i v hi) (by simp))) ?_
            refine dfz hS 2 underlying26 sizeOf24 ?_
            refine dld hS 1 isAgg24 ?_
            refine dm hS ?_
            refine vd_take rfl rfl rfl hS (fun w st => y_ia (k := j) rfl rfl underlying24 sizeOf69 rfl (by omega)) ?_
            refine vd_take rfl rfl rfl hS (fun w st => y_ldca (thL y ul ub dll dbb) rfl isAgg69 sizeOf69 rfl (fun i v hi => st.chg.cell (hd i v hi) (by simp))) ?_
            refine vd_two rfl rfl ?_ ?_
            ·
              refine (e_al (l := [_, _, _, _]) st rfl rfl zeroValue69 rfl ?_)
              intro b6 w hb6 st
              refine vd_next st.dr ?_; intro hS
              refine vd_do rfl (e_al (l := [_, _, _, _]) st rfl rfl zeroValue69 rfl ?_)
              intro b7 w hb7 st
              refine vd_next st.dr ?_; intro hS
              refine vd_do rfl (e_sts (vs := [_, _, _, _]) st 1 rfl rfl rfl rfl rfl sizeOf69 rfl rfl (by (right; assumption)) ?_)
              intro w st; dsimp only [setNth, wr] at st
              refine vd_next st.dr ?_; intro hS
              refine vd_do rfl (e_sts (vs := [_, _, _, _]) st 0 rfl rfl rfl rfl rfl sizeOf69 rfl rfl (by (right; assumption)) ?_)
              intro w st; dsimp only [setNth, wr] at st
              refine vd_next st.dr ?_; intro hS
              refine vd_end ?_
              refine vq_meet (b6, b7) ⟨rfl, rfl, rfl, rfl, rfl, rfl, trivial⟩ (st.pick [2, 3, 1, 0] rfl (by decide)) ?_
              · trivial
            ·
              refine (e_al (l := [_, _, _, _]) st rfl rfl zeroValue69 rfl ?_)
              intro b7 w hb7 st
              refine vd_next st.dr ?_; intro hS
              refine vd_do rfl (e_al (l := [_, _, _, _]) st rfl rfl zeroValue69 rfl ?_)
              intro b6 w hb6 st
              refine vd_next st.dr ?_; intro hS
              refine vd_do rfl (e_sts (vs := [_, _, _, _]) st 0 rfl rfl rfl rfl rfl sizeOf69 rfl rfl (by (right; assumption)) ?_)
              intro w st; dsimp only [setNth, wr] at st
              refine vd_next st.dr ?_; intro hS
              refine vd_do rfl (e_sts (vs := [_, _, _, _]) st 1 rfl rfl rfl rfl rfl sizeOf69 rfl rfl (by (right; assumption)) ?_)
              intro w st; dsimp only [setNth, wr] at st
              refine vd_next st.dr ?_; intro hS
              refine vd_end ?_
              refine vq_meet (b6, b7) ⟨rfl, rfl, rfl, rfl, rfl, rfl, trivial⟩ (st.pick [2, 3, 0, 1] rfl (by decide)) ?_
              · trivial
          ·
            clear st
            rintro ⟨b6, b7⟩ w - st
            dsimp only at *
            refine vc_seq (vc_region ?_)
            refine vy (y_fa0 rfl underlying69 rfl rfl sizeOf9 rfl) ?_
            refine yl st 2 isAgg9 ?_
            refine vy (y_fa0 rfl underlying69 rfl rfl sizeOf9 rfl) ?_
            refine yl st 3 isAgg9 ?_
            refine vy (y_nes rfl rfl) ?_
            refine vmb ?_ ?_
            · intro hg52
              try simp only [dn] at hg52
              iterate 6 refine vsk ?_
              refine ypt ?_
              refine ym ?_
              iterate 6 refine vsk ?_
              refine ypt ?_
              refine vc_end (vq_then (vk5 2 3 33 34 67 ?_))
              refine vc_ift rfl ?_
              refine vc_seq (vc_region ?_)
              refine ya ?_
              refine vc_end (vq_then (vk1 4 (vc_ret (vq_block_ret (vq_then_ret (vq_then_ret (vq_block_ret (vq_then_ret ?_))))))))
              refine vq_ret1 st (.inl rfl) results14 (.tmp rfl) ?_
              refine ⟨_, rfl, ?_⟩
              refine ⟨?_, st.chg⟩
              clear st
              unfold sameP
              (rw [zipA_no (f := sameT) hx hy (by unfold sameT; simp_all)]; simp; done)
            · intro hg52
              try simp only [dn] at hg52
              refine yfz 1 underlying69 sizeOf23 ?_
              refine yl st 2 isAgg23 ?_
              refine yfz 1 underlying69 sizeOf23 ?_
              refine yl st 3 isAgg23 ?_
              refine vc_e (e_call [_, _] rfl rfl call44 rfl (rdeclsS_any x.locals y.locals _ _ _ _ _ (RowC.kept htl (Same.of_nil st.chg)) (RowC.kept hul (Same.of_nil st.chg)) (by have := hkx.1.1; omega)) ?_)
              rintro _ w ⟨rfl, cw⟩
              replace st := st.call0 cw
              refine vy (y_not rfl) ?_
              refine ypf ?_
              refine vmb ?_ ?_
              · intro hg60
                try simp only [dn] at hg60
                iterate 6 refine vsk ?_
                refine ypt ?_
                refine vc_end (vq_then (vk5 2 3 33 34 67 ?_))
                refine vc_ift rfl ?_
                refine vc_seq (vc_region ?_)
                refine ya ?_
                refine vc_end (vq_then (vk1 4 (vc_ret (vq_block_ret (vq_then_ret (vq_then_ret (vq_block_ret (vq_then_ret ?_))))))))
                refine vq_ret1 st (.inl rfl) results14 (.tmp rfl) ?_
                refine ⟨_, rfl, ?_⟩
                refine ⟨?_, st.chg⟩
                clear st
                unfold sameP
                (rw [zipA_no (f := sameT) hx hy (by unfold sameT; simp_all)]; simp; done)
              · intro hg60
                try simp only [dn] at hg60
                refine yfz 2 underlying69 sizeOf65 ?_
                refine yl st 2 isAgg65 ?_
                refine yfz 2 underlying69 sizeOf65 ?_
                refine yl st 3 isAgg65 ?_
                refine vc_e (e_call [_, _] rfl rfl call45 rfl (rstmtsS_any _ x.body rfl hkx.2.1 y.body _ _ _ _ _ (htb.kept (Same.of_nil st.chg)) (hub.kept (Same.of_nil st.chg))) ?_)
                rintro _ w ⟨rfl, cw⟩
                replace st := st.call0 cw
                refine vy (y_not rfl) ?_
                refine ypf ?_
                refine vc_end (vq_then (vk5 2 3 33 34 67 ?_))
                refine vc_ifs rfl ?_ ?_
                · intro hc67
                  try simp only [dn] at hc67
                  refine vc_seq (vc_region ?_)
                  refine ya ?_
                  refine vc_end (vq_then (vk1 4 (vc_ret (vq_block_ret (vq_then_ret (vq_then_ret (vq_block_ret (vq_then_ret ?_))))))))
                  refine vq_ret1 st (.inl rfl) results14 (.tmp rfl) ?_
                  refine ⟨_, rfl, ?_⟩
                  refine ⟨?_, st.chg⟩
                  clear st
                  unfold sameP
                  (rw [zipA_no (f := sameT) hx hy (by unfold sameT; simp_all)]; simp; done)
                · intro hc67
                  try simp only [dn] at hc67
                  refine vc_code_skip (vq_block (vq_then (vk4 2 3 33 34 (vc_region ?_))))
                  refine vy (y_add rfl rfl (by omega : _ = ((j + 1 : Nat) : Int)) (by omega) (by omega)) ?_
                  refine ym ?_
                  refine vc_end ?_
                  refine vq_again (j + 1)  ⟨rfl, rfl, rfl, rfl, trivial⟩ (st.pick [0, 1] rfl (by decide)) ?_ ?_
                  · exact ⟨by omega, fun i x' y' hi h1 h2 => by
                      rcases (by omega : i < j ∨ i = j) with h | rfl
                      · exact hall i x' y' h h1 h2
                      · rw [hx] at h1; rw [hy] at h2; cases h1; cases h2; (unfold sameT; clear st; simp_all)⟩
                  · omega
        · intro hc35
          try simp only [dn] at hc35
          refine vc_exit (vq_then_exit (vq_then_exit (vq_block_exit (vq_then (vc_keep [] trivial (vc_seq (vc_region ?_)))))))
          refine ya ?_
          refine vc_end (vq_then (vk1 4 (vc_ret ?_)))
          refine vq_ret1 st (.inl rfl) results14 (.tmp rfl) ?_
          refine ⟨_, rfl, ?_⟩
          refine ⟨?_, st.chg⟩
          clear st
          unfold sameP
          (rw [‹zipA sameD p.shared q.shared = true›, ‹zipA sameD p.locks q.locks = true›, zipA_yes (by omega) fun i x y hi h1 h2 => hall i x y (by omega) h1 h2]; rfl)

set_option maxHeartbeats 2000000 in
theorem rexactly_any (p q : Pg) (hok : OkP p) (os ol ot os' ol' ot' : Option Addr) (cs cl ct cs' cl' ct' : Nat) (w : World) (hSh : DcRow w S os p.shared) (hL : DcRow w S ol p.locks) (hT : ThRow w S ot p.threads) (hSh' : DcRow w S os' q.shared) (hL' : DcRow w S ol' q.locks) (hT' : ThRow w S ot' q.threads) :
    Ret Tryz.prog 13 [.agg (pgL p os ol ot cs cl ct).toArray, .agg (pgL q os' ol' ot' cs' cl' ct').toArray] w fun v w' => v = .bool (exactP p q) ∧ Chg [] w w' := by
  refine ret_of [_, _] func13 rfl ntmps13 rfl ?_
  have st := St.init w []
  obtain ⟨w0, rfl⟩ : ∃ w0, w0 = w := ⟨_, rfl⟩
  have hn1 := hok.1.1
  have hn2 := hok.2.1.1
  have hn3 := hok.2.2.1
  refine vc_seq (vc_region ?_)
  refine vc_e (e_bx (l := [_, _, _]) st rfl rfl rfl rfl ?_)
  intro b2 w hb2 st
  refine vc_e (e_bx (l := [_, _, _]) st rfl rfl rfl rfl ?_)
  intro b3 w hb3 st
  refine ya ?_
  refine vc_end (vq_then (vk2 2 3 (vc_seq (vc_seq (vc_region ?_)))))
  refine yla st 1 [_, _, _] isAgg26 sizeOf26 ?_
  refine yla st 0 [_, _, _] isAgg26 sizeOf26 ?_
  refine vc_e (e_call [_, _] rfl rfl call14 rfl (rsamePg_any p q hok _ _ _ _ _ _ _ _ _ _ _ _ _ (RowC.kept hSh (Same.of_nil st.chg)) (RowC.kept hL (Same.of_nil st.chg)) (hT.kept (Same.of_nil st.chg)) (RowC.kept hSh' (Same.of_nil st.chg)) (RowC.kept hL' (Same.of_nil st.chg)) (hT'.kept (Same.of_nil st.chg))) ?_)
  rintro _ w ⟨rfl, cw⟩
  replace st := st.call0 cw
  refine vy (y_not rfl) ?_
  refine vmb ?_ ?_
  · intro hg12
    try simp only [dn] at hg12
    iterate 6 refine vsk ?_
    refine ypt ?_
    refine ym ?_
    iterate 6 refine vsk ?_
    refine ypt ?_
    refine vc_end (vq_then (vk3 2 3 27 ?_))
    refine vc_ift rfl ?_
    refine vc_seq (vc_region ?_)
    refine ya ?_
    refine vc_end (vq_then (vk1 4 (vc_ret (vq_then_ret ?_))))
    refine vq_ret1 st (.inl rfl) results13 (.tmp rfl) ?_
    refine ⟨_, rfl, ?_⟩
    refine ⟨?_, st.chg⟩
    clear st
    unfold exactP
    (rw [‹sameP p q = false›]; simp; done)
  · intro hg12
    try simp only [dn] at hg12
    refine vy (y_fa0 rfl underlying26 rfl rfl sizeOf23 rfl) ?_
    refine yl st 1 isAgg23 ?_
    refine vy (y_fa0 rfl underlying26 rfl rfl sizeOf23 rfl) ?_
    refine yl st 0 isAgg23 ?_
    refine vc_e (e_call [_, _] rfl rfl call42 rfl (rdeclared_any p.shared q.shared _ _ _ _ _ (RowC.kept hSh (Same.of_nil st.chg)) (RowC.kept hSh' (Same.of_nil st.chg)) (by omega)) ?_)
    rintro _ w ⟨rfl, cw⟩
    replace st := st.call0 cw
    refine vy (y_not rfl) ?_
    refine ypf ?_
    refine vmb ?_ ?_
    · intro hg20
      try simp only [dn] at hg20
      iterate 6 refine vsk ?_
      refine ypt ?_
      refine vc_end (vq_then (vk3 2 3 27 ?_))
      refine vc_ift rfl ?_
      refine vc_seq (vc_region ?_)
      refine ya ?_
      refine vc_end (vq_then (vk1 4 (vc_ret (vq_then_ret ?_))))
      refine vq_ret1 st (.inl rfl) results13 (.tmp rfl) ?_
      refine ⟨_, rfl, ?_⟩
      refine ⟨?_, st.chg⟩
      clear st
      unfold exactP
      (rw [‹zipA eqD p.shared q.shared = false›]; simp; done)
    · intro hg20
      try simp only [dn] at hg20
      refine yfz 1 underlying26 sizeOf23 ?_
      refine yl st 1 isAgg23 ?_
      refine yfz 1 underlying26 sizeOf23 ?_
      refine yl st 0 isAgg23 ?_
      refine vc_e (e_call [_, _] rfl rfl call42 rfl (rdeclared_any p.locks q.locks _ _ _ _ _ (RowC.kept hL (Same.of_nil st.chg)) (RowC.kept hL' (Same.of_nil st.chg)) (by omega)) ?_)
      rintro _ w ⟨rfl, cw⟩
      replace st := st.call0 cw
      refine vy (y_not rfl) ?_
      refine ypf ?_
      refine vc_end (vq_then (vk3 2 3 27 ?_))
      refine vc_ifs rfl ?_ ?_
      · intro hc27
        try simp only [dn] at hc27
        refine vc_seq (vc_region ?_)
        refine ya ?_
        refine vc_end (vq_then (vk1 4 (vc_ret (vq_then_ret ?_))))
        refine vq_ret1 st (.inl rfl) results13 (.tmp rfl) ?_
        refine ⟨_, rfl, ?_⟩
        refine ⟨?_, st.chg⟩
        clear st
        unfold exactP
        (rw [‹zipA eqD p.locks q.locks = false›]; simp; done)
      · intro hc27
        try simp only [dn] at hc27
        have hsp : sameP p q = true := by assumption
        have hlen := sameP_len hsp
        refine vc_code_skip (vq_then (vk2 2 3 (vc_seq (vc_seq (vc_region ?_)))))
        refine yfz 2 underlying26 sizeOf24 ?_
        refine yl st 1 isAgg24 ?_
        refine vy (y_lensl rfl underlying24) ?_
        refine ym ?_
        refine vc_end (vq_then (vk4 2 3 30 31 (vc_block ?_)))
        refine vc_loop (w0 := w0) (M := []) (fun (j : Nat) => [(2, .pointer (some ⟨b2, 0, none⟩)), (3, .pointer (some ⟨b3, 0, none⟩)), (30, .int .i64 (p.threads.length : Int)), (31, .int .i64 (j : Int))]) (fun _ => [.blk b2 (.cells (pgL p os ol ot cs cl ct).toArray 26 (0, 0)), .blk b3 (.cells (pgL q os' ol' ot' cs' cl' ct').toArray 26 (0, 0))]) (fun j _ => j ≤ p.threads.length ∧ ∀ (i : Nat) x y, i < j → p.threads[i]? = some x → q.threads[i]? = some y → exT x y = true) (fun j => p.threads.length - j) 0 ⟨rfl, rfl, rfl, rfl, trivial⟩ (st.pick [1, 0] rfl (by decide)) ⟨by omega, fun i x y h => by omega⟩ ?_
        clear st
        rintro j w ⟨hj, hall⟩ st
        refine vc_seq (vc_region ?_)
        refine vy (y_lss rfl rfl) ?_
        refine vc_end (vq_then (vk5 2 3 30 31 32 (vc_seq ?_)))
        refine vc_ifs rfl ?_ ?_
        · intro hc32
          try simp only [dn] at hc32
          have stK := st
          obtain ⟨x, hx⟩ : ∃ x, p.threads[j]? = some x := ⟨_, List.getElem?_eq_getElem (by omega)⟩
          obtain ⟨y, hy⟩ : ∃ y, q.threads[j]? = some y := ⟨_, List.getElem?_eq_getElem (by omega)⟩
          obtain ⟨gb, go, rfl, hgS, hgl, hg⟩ := ThRow.at hT (by omega)
          obtain ⟨fb, fo, rfl, hfS, hfl, hf⟩ := ThRow.at hT' (by omega)
          obtain ⟨tl, tb, cll, cbb, htl, htb, hc⟩ := hg j x hx
          obtain ⟨ul, ub, dll, dbb, hul, hub, hd⟩ := hf j y hy
          have hkx := hok.2.2.2 j x hx
          have st := stK
          clear stK
          refine vc_code_skip (vq_then (vk4 2 3 30 31 (vc_seq (vc_block (vc_seq (vc_region ?_))))))
          refine ym ?_
          refine ya ?_
          refine vc_end (vq_then (vk5 2 3 5 30 31 ?_))
          refine vc_cut (w0 := w0) (M := []) (fun (z : Nat × Nat) => [(2, .pointer (some ⟨b2, 0, none⟩)), (3, .pointer (some ⟨b3, 0, none⟩)), (6, .pointer (some ⟨z.1, 0, none⟩)), (7, .pointer (some ⟨z.2, 0, none⟩)), (30, .int .i64 (p.threads.length : Int)), (31, .int .i64 (j : Int))]) (fun z => [.blk b2 (.cells (pgL p os ol (some ⟨gb, go, none⟩) cs cl ct).toArray 26 (0, 0)), .blk b3 (.cells (pgL q os' ol' (some ⟨fb, fo, none⟩) cs' cl' ct').toArray 26 (0, 0)), .blk z.1 (.cells (thL x tl tb cll cbb).toArray 69 (0, 0)), .blk z.2 (.cells (thL y ul ub dll dbb).toArray 69 (0, 0))]) (fun _ _ => True) ?_ ?_
          ·
            refine vd_draw Tryz.mixed (.take 0 (.take 1 (.take 2 (.take 3 (.take 4 (.take 5 (.take 6 (.take 7 (.take 8 (.take 9 (.two 10 11 (.one 11 (.one 12 (.one 13 .done))) (.one 10 (.one 12 (.one 13 .done)))))))))))))) (fun w => St _ _ _ w) st (by kernel_rfl) (by repeat (first | exact okQ_body | refine okQ_then ?_ | refine okQ_block ?_)) rfl (by kernel_rfl) ?_
            intro w cd; replace st := st.call0 cd; clear cd
            have hS := st
            refine dfz hS 2 underlying26 sizeOf24 ?_
            refine dld hS 0 isAgg24 ?_
            refine dm hS ?_
            refine vd_take rfl rfl rfl hS (fun w st => y_ia (k := j) rfl rfl underlying24 sizeOf69 rfl (by omega)) ?_
            refine vd_take rfl rfl rfl hS (fun w st => y_ldca (thL x tl tb cll cbb) rfl isAgg69 sizeOf69 rfl (fun i v hi => st.chg.cell (hc i v hi) (by simp))) ?_
            refine dfz hS 2 underlying26 sizeOf24 ?_
            refine dld hS 1 isAgg24 ?_
            refine dm hS ?_
            refine vd_take rfl rfl rfl hS (fun w st => y_ia (k := j) rfl rfl underlying24 sizeOf69 rfl (by omega)) ?_
            refine vd_take rfl rfl rfl hS (fun w st => y_ldca (thL y ul ub dll dbb) rfl isAgg69 sizeOf69 rfl (fun i v hi => st.chg.cell (hd i v hi) (by simp))) ?_
            refine vd_two rfl rfl ?_ ?_
            ·
              refine (e_al (l := [_, _, _, _]) st rfl rfl zeroValue69 rfl ?_)
              intro b6 w hb6 st
              refine vd_next st.dr ?_; intro hS
              refine vd_do rfl (e_al (l := [_, _, _, _]) st rfl rfl zeroValue69 rfl ?_)
              intro b7 w hb7 st
              refine vd_next st.dr ?_; intro hS
              refine vd_do rfl (e_sts (vs := [_, _, _, _]) st 1 rfl rfl rfl rfl rfl sizeOf69 rfl rfl (by (right; assumption)) ?_)
              intro w st; dsimp only [setNth, wr] at st
              refine vd_next st.dr ?_; intro hS
              refine vd_do rfl (e_sts (vs := [_, _, _, _]) st 0 rfl rfl rfl rfl rfl sizeOf69 rfl rfl (by (right; assumption)) ?_)
              intro w st; dsimp only [setNth, wr] at st
              refine vd_next st.dr ?_; intro hS
              refine vd_end ?_
              refine vq_meet (b6, b7) ⟨rfl, rfl, rfl, rfl, rfl, rfl, trivial⟩ (st.pick [2, 3, 1, 0] rfl (by decide)) ?_
              · trivial
            ·
              refine (e_al (l := [_, _, _, _]) st rfl rfl zeroValue69 rfl ?_)
              intro b7 w hb7 st
              refine vd_next st.dr ?_; intro hS
              refine vd_do rfl (e_al (l := [_, _, _, _]) st rfl rfl zeroValue69 rfl ?_)
              intro b6 w hb6 st
              refine vd_next st.dr ?_; intro hS
              refine vd_do rfl (e_sts (vs := [_, _, _, _]) st 0 rfl rfl rfl rfl rfl sizeOf69 rfl rfl (by (right; assumption)) ?_)
              intro w st; dsimp only [setNth, wr] at st
              refine vd_next st.dr ?_; intro hS
              refine vd_do rfl (e_sts (vs := [_, _, _, _]) st 1 rfl rfl rfl rfl rfl sizeOf69 rfl rfl (by (right; assumption)) ?_)
              intro w st; dsimp only [setNth, wr] at st
              refine vd_next st.dr ?_; intro hS
              refine vd_end ?_
              refine vq_meet (b6, b7) ⟨rfl, rfl, rfl, rfl, rfl, rfl, trivial⟩ (st.pick [2, 3, 0, 1] rfl (by decide)) ?_
              · trivial
          ·
            clear st
            rintro ⟨b6, b7⟩ w - st
            dsimp only at *
            refine vc_seq (vc_region ?_)
            refine yfz 3 underlying69 sizeOf3 ?_
            refine yl st 2 isAgg3 ?_
            refine yfz 3 underlying69 sizeOf3 ?_
            refine yl st 3 isAgg3 ?_
            refine vy (y_nei rfl rfl) ?_
            refine vmb ?_ ?_
            · intro hg49
              try simp only [dn] at hg49
              iterate 6 refine vsk ?_
              refine ypt ?_
              refine ym ?_
              iterate 6 refine vsk ?_
              refine ypt ?_
              refine vc_end (vq_then (vk5 2 3 30 31 64 ?_))
              refine vc_ift rfl ?_
              refine vc_seq (vc_region ?_)
              refine ya ?_
              refine vc_end (vq_then (vk1 4 (vc_ret (vq_block_ret (vq_then_ret (vq_then_ret (vq_block_ret (vq_then_ret ?_))))))))
              refine vq_ret1 st (.inl rfl) results13 (.tmp rfl) ?_
              refine ⟨_, rfl, ?_⟩
              refine ⟨?_, st.chg⟩
              clear st
              unfold exactP
              (rw [zipA_no (f := exT) hx hy (by unfold exT; simp_all)]; simp; done)
            · intro hg49
              try simp only [dn] at hg49
              refine yfz 1 underlying69 sizeOf23 ?_
              refine yl st 2 isAgg23 ?_
              refine yfz 1 underlying69 sizeOf23 ?_
              refine yl st 3 isAgg23 ?_
              refine vc_e (e_call [_, _] rfl rfl call42 rfl (rdeclared_any x.locals y.locals _ _ _ _ _ (RowC.kept htl (Same.of_nil st.chg)) (RowC.kept hul (Same.of_nil st.chg)) (by have := hkx.1.1; omega)) ?_)
              rintro _ w ⟨rfl, cw⟩
              replace st := st.call0 cw
              refine vy (y_not rfl) ?_
              refine ypf ?_
              refine vmb ?_ ?_
              · intro hg57
                try simp only [dn] at hg57
                iterate 6 refine vsk ?_
                refine ypt ?_
                refine vc_end (vq_then (vk5 2 3 30 31 64 ?_))
                refine vc_ift rfl ?_
                refine vc_seq (vc_region ?_)
                refine ya ?_
                refine vc_end (vq_then (vk1 4 (vc_ret (vq_block_ret (vq_then_ret (vq_then_ret (vq_block_ret (vq_then_ret ?_))))))))
                refine vq_ret1 st (.inl rfl) results13 (.tmp rfl) ?_
                refine ⟨_, rfl, ?_⟩
                refine ⟨?_, st.chg⟩
                clear st
                unfold exactP
                (rw [zipA_no (f := exT) hx hy (by unfold exT; simp_all)]; simp; done)
              · intro hg57
                try simp only [dn] at hg57
                refine yfz 2 underlying69 sizeOf65 ?_
                refine yl st 2 isAgg65 ?_
                refine yfz 2 underlying69 sizeOf65 ?_
                refine yl st 3 isAgg65 ?_
                refine vc_e (e_call [_, _] rfl rfl call43 rfl (rplacesS_any _ x.body rfl hkx.2.1 y.body _ _ _ _ _ (htb.kept (Same.of_nil st.chg)) (hub.kept (Same.of_nil st.chg))) ?_)
                rintro _ w ⟨rfl, cw⟩
                replace st := st.call0 cw
                refine vy (y_not rfl) ?_
                refine ypf ?_
                refine vc_end (vq_then (vk5 2 3 30 31 64 ?_))
                refine vc_ifs rfl ?_ ?_
                · intro hc64
                  try simp only [dn] at hc64
                  refine vc_seq (vc_region ?_)
                  refine ya ?_
                  refine vc_end (vq_then (vk1 4 (vc_ret (vq_block_ret (vq_then_ret (vq_then_ret (vq_block_ret (vq_then_ret ?_))))))))
                  refine vq_ret1 st (.inl rfl) results13 (.tmp rfl) ?_
                  refine ⟨_, rfl, ?_⟩
                  refine ⟨?_, st.chg⟩
                  clear st
                  unfold exactP
                  (rw [zipA_no (f := exT) hx hy (by unfold exT; simp_all)]; simp; done)
                · intro hc64
                  try simp only [dn] at hc64
                  refine vc_code_skip (vq_block (vq_then (vk4 2 3 30 31 (vc_region ?_))))
                  refine vy (y_add rfl rfl (by omega : _ = ((j + 1 : Nat) : Int)) (by omega) (by omega)) ?_
                  refine ym ?_
                  refine vc_end ?_
                  refine vq_again (j + 1)  ⟨rfl, rfl, rfl, rfl, trivial⟩ (st.pick [0, 1] rfl (by decide)) ?_ ?_
                  · exact ⟨by omega, fun i x' y' hi h1 h2 => by
                      rcases (by omega : i < j ∨ i = j) with h | rfl
                      · exact hall i x' y' h h1 h2
                      · rw [hx] at h1; rw [hy] at h2; cases h1; cases h2; (unfold exT; clear st; simp_all)⟩
                  · omega
        · intro hc32
          try simp only [dn] at hc32
          refine vc_exit (vq_then_exit (vq_then_exit (vq_block_exit (vq_then (vc_keep [] trivial (vc_seq (vc_region ?_)))))))
          refine ya ?_
          refine vc_end (vq_then (vk1 4 (vc_ret ?_)))
          refine vq_ret1 st (.inl rfl) results13 (.tmp rfl) ?_
          refine ⟨_, rfl, ?_⟩
          refine ⟨?_, st.chg⟩
          clear st
          unfold exactP
          (rw [‹sameP p q = true›, ‹zipA eqD p.shared q.shared = true›, ‹zipA eqD p.locks q.locks = true›, zipA_yes hlen fun i x y hi h1 h2 => hall i x y (by omega) h1 h2]; rfl)

end
end Go.Proofs.YtnmhlpnapgojjaaGreatDoor


namespace Go.Proofs.YtnmhlpnapgojjaaGreatDoor
open Go.RowKit Sx LexS _root_.Go.Proofs.Tryz
section
variable {n0 : Nat}

set_option maxHeartbeats 2000000 in
theorem rcopyP_any (p : Pg) (hok : OkP p) (os ol ot : Option Addr) (cs cl ct : Nat) (w : World) (hSh : DcRow w (· < n0) os p.shared) (hL : DcRow w (· < n0) ol p.locks) (hT : ThRow w (· < n0) ot p.threads) (hn0 : n0 ≤ w.heap.size) :
    Ret Tryz.prog 23 [.agg (pgL p os ol ot cs cl ct).toArray] w fun v w' => ∃ l S, v = .agg l.toArray ∧ PgQ w' p l S ∧ Nw w.heap.size S ∧ Chg [] w w' := by
  refine ret_of [_] func23 rfl ntmps23 rfl ?_
  have st := St.init w []
  obtain ⟨w0, rfl⟩ : ∃ w0, w0 = w := ⟨_, rfl⟩
  have hn1 := hok.1.1
  have hn2 := hok.2.1.1
  have hn3 := hok.2.2.1
  refine vc_seq (vc_region ?_)
  refine vc_e (e_bx (l := [_, _, _]) st rfl rfl rfl rfl ?_)
  intro b1 w hb1 st
  refine vc_e (e_al (l := [_, _, _]) st rfl rfl zeroValue26 rfl ?_)
  intro b2 w hb2 st
  refine vc_end (vq_then (vk2 1 2 ?_))
  refine vc_cut (w0 := w0) (M := []) (fun (z : Option Addr × Nat × Option Addr × Nat × List Nat × List Nat × Nat) => [(1, .pointer (some ⟨b1, 0, none⟩)), (2, .pointer (some ⟨b2, 0, none⟩)), (3, .pointer (some ⟨z.2.2.2.2.2.2, 0, none⟩))]) (fun z => [.blk z.2.2.2.2.2.2 (.cells [.slice z.1 p.shared.length z.2.1, .slice z.2.2.1 p.locks.length z.2.2.2.1, .slice none 0 0].toArray 26 (0, 0)), .tree z.2.2.2.2.1 (fun w => DcRQ w z.1 z.2.1 p.shared z.2.2.2.2.1), .tree z.2.2.2.2.2.1 (fun w => DcRQ w z.2.2.1 z.2.2.2.1 p.locks z.2.2.2.2.2.1), .blk b2 (.cells [.slice none 0 0, .slice none 0 0, .slice none 0 0].toArray 26 (0, 0)), .blk b1 (.cells (pgL p os ol ot cs cl ct).toArray 26 (0, 0))]) (fun z _ => Nw w0.heap.size z.2.2.2.2.1 ∧ Nw w0.heap.size z.2.2.2.2.2.1 ∧ w0.heap.size ≤ z.2.2.2.2.2.2) ?_ ?_
  ·
    refine vd_draw Tryz.mixed (.take 0 (.take 1 (.take 3 (.take 4 (.two 2 7 (.two 5 7 (.take 6 (.one 7 (.one 8 .done))) (.one 5 (.take 6 (.one 8 .done)))) (.one 2 (.one 5 (.take 6 (.one 8 .done))))))))) (fun w => St _ _ [.blk b2 (.cells [.slice none 0 0, .slice none 0 0, .slice none 0 0].toArray 26 (0, 0)), .blk b1 (.cells (pgL p os ol ot cs cl ct).toArray 26 (0, 0))] w) (by exact st) (by kernel_rfl) (by repeat (first | exact okQ_body | refine okQ_then ?_ | refine okQ_block ?_)) rfl (by kernel_rfl) ?_
    intro w cd; replace st := st.call0 cd; clear cd
    have hS : St _ _ [.blk b2 (.cells [.slice none 0 0, .slice none 0 0, .slice none 0 0].toArray 26 (0, 0)), .blk b1 (.cells (pgL p os ol ot cs cl ct).toArray 26 (0, 0))] w := (by exact st)
    refine df0 hS underlying26 sizeOf23 ?_
    refine dld hS 1 isAgg23 ?_
    refine dfz hS 1 underlying26 sizeOf23 ?_
    refine dld hS 1 isAgg23 ?_
    refine vd_two rfl rfl ?_ ?_
    ·
      refine (e_call [_] rfl rfl call68 rfl (rcopyD_any p.shared hn1 _ _ _ (RowC.kept hSh (Same.of_nil st.chg))) ?_)
      rintro _ w ⟨s1o, s1c, S1, rfl, hQ, hN, cw⟩
      have hN1 := hN.le st.chg.size
      replace st := St.pushR (r := .tree S1 (fun w => DcRQ w s1o s1c p.shared S1)) st cw (holds_of hQ hQ.lt (fun a b h hk => h.kept hk)) hN.2
      refine vd_next st.dr ?_; intro hS
      refine vd_two rfl rfl ?_ ?_
      ·
        refine (e_call [_] rfl rfl call68 rfl (rcopyD_any p.locks hn2 _ _ _ (RowC.kept hL (Same.of_nil st.chg))) ?_)
        rintro _ w ⟨s2o, s2c, S2, rfl, hQ, hN, cw⟩
        have hN2 := hN.le st.chg.size
        replace st := St.pushR (r := .tree S2 (fun w => DcRQ w s2o s2c p.locks S2)) st cw (holds_of hQ hQ.lt (fun a b h hk => h.kept hk)) hN.2
        refine vd_next st.dr ?_; intro hS
        refine vd_take rfl rfl rfl hS (fun w st => y_bld (.agg #[_, _, _]) [(0, _), (1, _)] rfl (fun w => by simp [Instr.build, go_sem] <;> repeat' constructor)) ?_
        refine vd_do rfl (e_al (l := [_, _, _]) st rfl rfl zeroValue26 rfl ?_)
        intro b3 w hb3 st
        refine vd_next st.dr ?_; intro hS
        refine vd_do rfl (e_sts (vs := [_, _, _]) st 0 rfl rfl rfl rfl rfl sizeOf26 rfl rfl (by (right; assumption)) ?_)
        intro w st; dsimp only [setNth, wr] at st
        refine vd_next st.dr ?_; intro hS
        refine vd_end ?_
        refine vq_meet (s1o, s1c, s2o, s2c, S1, S2, b3) ⟨rfl, rfl, rfl, trivial⟩ (st.pick [0, 2, 1, 3, 4] rfl (by decide)) ?_
        · exact ⟨hN1, hN2, by assumption⟩
      ·
        refine (e_al (l := [_, _, _]) st rfl rfl zeroValue26 rfl ?_)
        intro b3 w hb3 st
        refine vd_next st.dr ?_; intro hS
        refine vd_do rfl (e_call [_] rfl rfl call68 rfl (rcopyD_any p.locks hn2 _ _ _ (RowC.kept hL (Same.of_nil st.chg))) ?_)
        rintro _ w ⟨s2o, s2c, S2, rfl, hQ, hN, cw⟩
        have hN2 := hN.le st.chg.size
        replace st := St.pushR (r := .tree S2 (fun w => DcRQ w s2o s2c p.locks S2)) st cw (holds_of hQ hQ.lt (fun a b h hk => h.kept hk)) hN.2
        refine vd_next st.dr ?_; intro hS
        refine vd_take rfl rfl rfl hS (fun w st => y_bld (.agg #[_, _, _]) [(0, _), (1, _)] rfl (fun w => by simp [Instr.build, go_sem] <;> repeat' constructor)) ?_
        refine vd_do rfl (e_sts (vs := [_, _, _]) st 1 rfl rfl rfl rfl rfl sizeOf26 rfl rfl (by (right; assumption)) ?_)
        intro w st; dsimp only [setNth, wr] at st
        refine vd_next st.dr ?_; intro hS
        refine vd_end ?_
        refine vq_meet (s1o, s1c, s2o, s2c, S1, S2, b3) ⟨rfl, rfl, rfl, trivial⟩ (st.pick [1, 2, 0, 3, 4] rfl (by decide)) ?_
        · exact ⟨hN1, hN2, by assumption⟩
    ·
      refine (e_al (l := [_, _, _]) st rfl rfl zeroValue26 rfl ?_)
      intro b3 w hb3 st
      refine vd_next st.dr ?_; intro hS
      refine vd_do rfl (e_call [_] rfl rfl call68 rfl (rcopyD_any p.shared hn1 _ _ _ (RowC.kept hSh (Same.of_nil st.chg))) ?_)
      rintro _ w ⟨s1o, s1c, S1, rfl, hQ, hN, cw⟩
      have hN1 := hN.le st.chg.size
      replace st := St.pushR (r := .tree S1 (fun w => DcRQ w s1o s1c p.shared S1)) st cw (holds_of hQ hQ.lt (fun a b h hk => h.kept hk)) hN.2
      refine vd_next st.dr ?_; intro hS
      refine vd_do rfl (e_call [_] rfl rfl call68 rfl (rcopyD_any p.locks hn2 _ _ _ (RowC.kept hL (Same.of_nil st.chg))) ?_)
      rintro _ w ⟨s2o, s2c, S2, rfl, hQ, hN, cw⟩
      have hN2 := hN.le st.chg.size
      replace st := St.pushR (r := .tree S2 (fun w => DcRQ w s2o s2c p.locks S2)) st cw (holds_of hQ hQ.lt (fun a b h hk => h.kept hk)) hN.2
      refine vd_next st.dr ?_; intro hS
      refine vd_take rfl rfl rfl hS (fun w st => y_bld (.agg #[_, _, _]) [(0, _), (1, _)] rfl (fun w => by simp [Instr.build, go_sem] <;> repeat' constructor)) ?_
      refine vd_do rfl (e_sts (vs := [_, _, _]) st 2 rfl rfl rfl rfl rfl sizeOf26 rfl rfl (by (right; assumption)) ?_)
      intro w st; dsimp only [setNth, wr] at st
      refine vd_next st.dr ?_; intro hS
      refine vd_end ?_
      refine vq_meet (s1o, s1c, s2o, s2c, S1, S2, b3) ⟨rfl, rfl, rfl, trivial⟩ (st.pick [2, 1, 0, 3, 4] rfl (by decide)) ?_
      · exact ⟨hN1, hN2, by assumption⟩
  ·
    clear st
    rintro ⟨s1o, s1c, s2o, s2c, S1, S2, b3⟩ w ⟨hN1, hN2, hb3⟩ st
    dsimp only at *
    refine vc_seq (vc_seq (vc_region ?_))
    replace st := St.pushR (r := .tree [] (fun w => ThSs 42 67 63 w [] [] [])) st (Chg.refl _ _) (holds_of (by simp [ThSs]) (by simp) (fun a b h hk => h.kept hk)) (by simp [Res.at?])
    replace st := st.ownNil 69 4
    refine yfz 2 underlying26 sizeOf24 ?_
    refine yl st 6 isAgg24 ?_
    refine vy (y_lensl rfl underlying24) ?_
    refine ym ?_
    refine vc_end (vq_then (vk5 2 3 14 15 16 (vc_block ?_)))
    refine vc_loop (w0 := w0) (M := []) (fun (y : Nat × Option Addr × Nat × List Value × List Nat) => [(2, .pointer (some ⟨b2, 0, none⟩)), (3, .pointer (some ⟨b3, 0, none⟩)), (14, .slice ot p.threads.length ct), (15, .int .i64 (p.threads.length : Int)), (16, .int .i64 (y.1 : Int))]) (fun y => [.own (.slice y.2.1 y.1 y.2.2.1) 69 4 y.1 y.2.2.2.1, .tree y.2.2.2.2 (fun w => ThSs 42 67 63 w (p.threads.take y.1) y.2.2.2.1 y.2.2.2.2), .blk b3 (.cells [.slice s1o p.shared.length s1c, .slice s2o p.locks.length s2c, .slice y.2.1 y.1 y.2.2.1].toArray 26 (0, 0)), .tree S1 (fun w => DcRQ w s1o s1c p.shared S1), .tree S2 (fun w => DcRQ w s2o s2c p.locks S2), .blk b2 (.cells [.slice none 0 0, .slice none 0 0, .slice none 0 0].toArray 26 (0, 0))]) (fun y _ => y.1 ≤ p.threads.length ∧ Nw w0.heap.size y.2.2.2.2) (fun y => p.threads.length - y.1) (0, none, 0, [], []) ⟨rfl, rfl, rfl, rfl, rfl, trivial⟩ (by simpa using st.pick [0, 1, 2, 3, 4, 5] rfl (by decide)) ⟨by simp, Nw.nil⟩ ?_
    clear st
    rintro ⟨j, oj, cj, xs, S⟩ w ⟨hj, hSS⟩ st
    dsimp only at *
    refine vc_seq (vc_region ?_)
    refine vy (y_lss rfl rfl) ?_
    refine vc_end (vq_then (vk6 2 3 14 15 16 17 (vc_seq ?_)))
    refine vc_ifs rfl ?_ ?_
    · intro hc17
      try simp only [dn] at hc17
      have stK := st
      obtain ⟨t, htj⟩ : ∃ t, p.threads[j]? = some t := ⟨_, List.getElem?_eq_getElem (by omega)⟩
      obtain ⟨gb, go, rfl, hgS, hgl, hg⟩ := ThRow.at hT (by omega)
      obtain ⟨tl, tb, cll, cbb, htl, htb, hc⟩ := hg j t htj
      have hkt := hok.2.2.2 j t htj
      have st := stK
      clear stK
      refine vc_code_skip (vq_then (vk5 2 3 14 15 16 (vc_seq (vc_block (vc_seq (vc_region ?_))))))
      refine vy (y_ia (k := j) rfl rfl underlying24 sizeOf69 rfl (by omega)) ?_
      refine vy (y_ldca (thL t tl tb cll cbb) rfl isAgg69 sizeOf69 rfl (fun i v hi => st.chg.cell (hc i v hi) (by simp))) ?_
      refine vc_e (e_al (l := [_, _, _, _]) st rfl rfl zeroValue69 rfl ?_)
      intro b5 w hb5 st
      refine vc_e (e_sts (vs := [_, _, _, _]) st 0 rfl rfl rfl rfl rfl sizeOf69 rfl rfl (by (right; assumption)) ?_)
      intro w st; dsimp only [setNth, wr] at st
      refine vc_end (vq_then (vk6 2 3 5 14 15 16 (vc_seq (vc_region ?_))))
      refine yfz 1 underlying69 sizeOf23 ?_
      refine yl st 0 isAgg23 ?_
      refine vc_e (e_call [_] rfl rfl call68 rfl (rcopyD_any t.locals hkt.1.1 _ _ _ (RowC.kept htl (Same.of_nil st.chg))) ?_)
      rintro _ w ⟨s3o, s3c, S3, rfl, hQ, hN, cw⟩
      have hN3 := hN.le st.chg.size
      replace st := St.pushR (r := .tree S3 (fun w => DcRQ w s3o s3c t.locals S3)) st cw (holds_of hQ hQ.lt (fun a b h hk => h.kept hk)) hN.2
      refine yfz 1 underlying69 sizeOf23 ?_
      refine vc_e (e_st st 1 rfl rfl rfl rfl sizeOf23 rfl rfl (by (right; assumption)) ?_)
      intro w st; dsimp only [setNth, wr] at st
      refine vc_end (vq_then (vk6 2 3 5 14 15 16 (vc_seq (vc_region ?_))))
      refine yfz 2 underlying69 sizeOf65 ?_
      refine yl st 1 isAgg65 ?_
      refine vc_e (e_call [_] rfl rfl call69 rfl (rcopyS_any _ t.body rfl hkt.2.1 _ _ _ (htb.kept (Same.of_nil st.chg)) (Nat.le_trans hn0 st.chg.size)) ?_)
      rintro _ w ⟨s4o, s4c, S4, rfl, hQ, hN, cw⟩
      have hN4 := hN.le st.chg.size
      replace st := St.pushR (r := .tree S4 (fun w => SmRQ w s4o s4c t.body S4)) st cw (holds_of hQ hQ.lt (fun a b h hk => h.kept hk)) hN.2
      refine yfz 2 underlying69 sizeOf65 ?_
      refine vc_e (e_st st 2 rfl rfl rfl rfl sizeOf65 rfl rfl (by (right; assumption)) ?_)
      intro w st; dsimp only [setNth, wr] at st
      refine vc_end (vq_then (vk6 2 3 5 14 15 16 (vc_region ?_)))
      refine yfz 2 underlying26 sizeOf24 ?_
      refine yl st 5 isAgg24 ?_
      refine yla st 2 [_, _, _, _] isAgg69 sizeOf69 ?_
      refine vc_e (e_bs1 (l := [_, _, _, _]) st rfl rfl rfl rfl underlying24 sizeOf69 rfl rfl rfl zeroValue69 ?_)
      intro b31 w hb31 st
      refine vc_e (e_app (bytes := 72) st 4 0 rfl rfl rfl rfl rfl rfl underlying24 Tryz.info69 rfl rfl rfl rfl rfl (by simp) rfl rfl (by unfold maxLen; omega) (by omega) ?_)
      intro oaQ capQ w st; dsimp only [setNth] at st
      refine yfz 2 underlying26 sizeOf24 ?_
      refine vc_e (e_st st 6 rfl rfl rfl rfl sizeOf24 rfl rfl (by (right; assumption)) ?_)
      intro w st; dsimp only [setNth, wr] at st
      refine vc_end (vq_block (vq_then (vk5 2 3 14 15 16 (vc_region ?_))))
      have d34 := st.ne (i := 2) (j := 1) (by decide) rfl rfl
      have dS3 := st.ne (i := 5) (j := 2) (by decide) rfl rfl
      have dS4 := st.ne (i := 5) (j := 1) (by decide) rfl rfl
      have hNq := hN3.app hN4 d34
      have hne : ∀ b ∈ S, b ∉ S3 ++ S4 := fun b hb hb' => (List.mem_append.1 hb').elim (dS3 b hb) (dS4 b hb)
      have h0 := (st.res (i := 5) rfl).1
      have h3 := (st.res (i := 2) rfl).1
      have h4 := (st.res (i := 1) rfl).1
      have h5 : ThSs 42 67 63 w (p.threads.take (j + 1)) (xs ++ thL t s3o s4o s3c s4c) (S ++ (S3 ++ S4)) := by rw [take_snoc htj]; exact ThSs.snoc h0 ⟨s3o, s3c, s4o, s4c, S3, S4, rfl, h3, h4, rfl⟩
      have stN := (((st.pick [5, 2, 1, 4, 6, 7, 8, 9] rfl (by decide)).joinN 3 (q := .tree (S ++ (S3 ++ S4)) fun w => ThSs 42 67 63 w (p.threads.take (j + 1)) (xs ++ thL t s3o s4o s3c s4c) (S ++ (S3 ++ S4))) (fun k hk => by
        simp only [Res.at?, List.mem_append] at hk
        rcases hk with h | h | h
        · exact ⟨_, .head _, h⟩
        · exact ⟨_, .tail _ (.head _), h⟩
        · exact ⟨_, .tail _ (.tail _ (.head _)), h⟩) (holds_of h5 h5.lt (fun a b h hk => h.kept hk)))).pick [1, 0, 2, 3, 4, 5] rfl (by decide)
      refine vy (y_add rfl rfl (by omega : _ = ((j + 1 : Nat) : Int)) (by omega) (by omega)) ?_
      refine ym ?_
      refine vc_end ?_
      refine vq_again (j + 1, oaQ, capQ, xs ++ thL t s3o s4o s3c s4c, S ++ (S3 ++ S4))  ⟨rfl, rfl, rfl, rfl, rfl, trivial⟩ stN ?_ ?_
      · exact ⟨by dsimp only; omega, hSS.app hNq hne⟩
      · dsimp only; omega
    · intro hc17
      try simp only [dn] at hc17
      obtain rfl : j = p.threads.length := by omega
      rw [List.take_length] at st
      refine vc_exit (vq_then_exit (vq_then_exit (vq_block_exit (vq_then (vk2 2 3 (vc_seq (vc_region ?_)))))))
      refine yla st 2 [_, _, _] isAgg26 sizeOf26 ?_
      refine vc_e (e_sts (vs := [_, _, _]) st 5 rfl rfl rfl rfl rfl sizeOf26 rfl rfl (by (right; assumption)) ?_)
      intro w st; dsimp only [setNth, wr] at st
      refine vc_end (vq_then (vk1 2 (vc_ret ?_)))
      refine vq_ret1 st (.inl rfl) results23 (by exact .cell 5 rfl rfl isAgg26 sizeOf26) ?_
      refine ⟨_, rfl, ?_⟩
      obtain ⟨h1, h2⟩ := st.ownNw (i := 0) rfl
      have h3 := (st.res (i := 1) rfl).1
      have h4 := (st.res (i := 3) rfl).1
      have h5 := (st.res (i := 4) rfl).1
      have e0 := st.ne (i := 0) (j := 1) (by decide) rfl rfl
      have e1 := st.ne (i := 3) (j := 4) (by decide) rfl rfl
      have e2 := st.ne (i := 3) (j := 0) (by decide) rfl rfl
      have e3 := st.ne (i := 3) (j := 1) (by decide) rfl rfl
      have e4 := st.ne (i := 4) (j := 0) (by decide) rfl rfl
      have e5 := st.ne (i := 4) (j := 1) (by decide) rfl rfl
      simp only [Res.at?, obk_own] at e0 e1 e2 e3 e4 e5
      exact ⟨_, S1 ++ (S2 ++ (obk oj ++ S)), rfl, ⟨s1o, s1c, s2o, s2c, oj, cj, S1, S2, obk oj ++ S, rfl, h4, h5, ⟨xs, S, h1, rfl, h3⟩, rfl⟩,
        hN1.app (hN2.app (h2.app hSS e0) (fun b hb hb' => (List.mem_append.1 hb').elim (e4 b hb) (e5 b hb))) (fun b hb hb' => (List.mem_append.1 hb').elim (e1 b hb) fun h => (List.mem_append.1 h).elim (e2 b hb) (e3 b hb)), st.chg⟩

end
end Go.Proofs.YtnmhlpnapgojjaaGreatDoor


namespace Go.Proofs.YtnmhlpnapgojjaaGreatDoor
open Go.RowKit Sx LexS _root_.Go.Proofs.Tryz
def nameE (s : List UInt8) : Ex := .mk 2 0 0 s [] 0
def opE (op : Int) (x y : Ex) : Ex := .mk 4 op 0 [] [x, y] 0
/-- Expr's answer -/
def exprT (e : Ex) : List UInt8 × Nat := if rightE e 0 = true then (if (txtE e).length ≤ 65536 then (txtE e, 0) else ([], 4)) else ([], 40)
theorem exV_name (s : List UInt8) (w : World) (S : Nat → Prop) : ExV w S (nameE s) (exL (nameE s) none 0) := .mk (fun _ => []) (.inl rfl) (fun j x h => by simp at h)
theorem exV_two {w : World} {S : Nat → Prop} {op : Int} {x y : Ex} {lx ly : List Value} {b E : Nat} {fz : Nat × Nat} (h : w.heap[b]? = some (.cells (lx ++ ly).toArray E fz)) (hS : S b) (hx : ExV w S x lx) (hy : ExV w S y ly) : ExV w S (opE op x y) (exL (opE op x y) (some ⟨b, 0, none⟩) 2) := by
 have h6 := hx.len
 have h6' := hy.len
 refine .mk (fun j => if j = 0 then lx else ly) (.inr ⟨b, 0, rfl, hS, (Array.getElem?_eq_some_iff.1 h).1, fun j hj => ?_⟩) (fun j z hz => ?_)
 ·simp only [List.length_cons, List.length_nil] at hj
  rcases (by omega : j = 0 ∨ j = 1) with rfl | rfl
  ·refine ⟨h6, fun i v hi => ?_⟩
   refine cell_blk h ?_
   have hi' : lx[i]? = some v := hi
   rw [nth_eq, show 0 + 0 * 6 + i = i by omega, List.getElem?_append_left (List.getElem?_eq_some_iff.1 hi').1]
   exact hi'
  ·refine ⟨h6', fun i v hi => ?_⟩
   refine cell_blk h ?_
   rw [nth_eq, show 0 + 1 * 6 + i = lx.length + i by omega, List.getElem?_append_right (by omega), Nat.add_sub_cancel_left]
   exact hi
 ·match j, hz with
  | 0, hz => simp at hz; subst hz; exact hx
  | 1, hz => simp at hz; subst hz; exact hy
  | j + 2, hz => simp at hz
theorem rowC_one {w : World} {S : Nat → Prop} {b E sz : Nat} {fz : Nat × Nat} {l : List Value} {vs : Nat → List Value} (h : w.heap[b]? = some (.cells l.toArray E fz)) (hS : S b) (hl : l.length = sz) (hv : vs 0 = l) : RowC w S sz (some ⟨b, 0, none⟩) 1 vs := by
 refine .inr ⟨b, 0, rfl, hS, (Array.getElem?_eq_some_iff.1 h).1, fun j hj => ?_⟩
 obtain rfl : j = 0 := by omega
 rw [hv]
 refine ⟨hl, fun i v hi => cell_blk h ?_⟩
 rw [nth_eq, show 0 + 0 * sz + i = i by omega]
 exact hi
section
variable {n0 : Nat}

theorem name30_any (s : List UInt8) (w : World) : Ret Tryz.prog 33 [str s] w fun v w' => v = .agg (exL (nameE s) none 0).toArray ∧ Chg [] w w' := by
 refine ret_of [_] func33 rfl ntmps33 rfl ?_
 have st := St.init w []
 refine vc_seq (vc_region ?_)
 refine vc_e (e_al (l := [_, _, _, _, _, _]) st rfl rfl zeroValue42 rfl ?_)
 intro b2 w hb2 st
 refine vc_end (vq_then (vk2 0 2 (vc_seq (vc_region ?_))))
 refine ym ?_
 refine vy (y_bld (.agg #[_, _, _, _, _, _]) [(0, _), (3, _)] rfl (fun w => by simp [Instr.build, go_sem] <;> repeat' constructor)) ?_
 refine vc_e (e_sts (vs := [_, _, _, _, _, _]) st 0 rfl rfl rfl rfl rfl sizeOf42 rfl rfl (by (right; assumption)) ?_)
 intro w st; dsimp only [setNth, wr] at st
 refine vc_end (vq_then (vk1 2 (vc_ret ?_)))
 refine vq_ret1 st (.inl rfl) results33 (by exact .cell 0 rfl rfl isAgg42 sizeOf42) ?_
 refine ⟨_, rfl, ?_⟩
 exact ⟨rfl, st.chg⟩

theorem binary_any (op : Int) (x y : Ex) (o o' : Option Addr) (c c' : Nat) (w : World) : Ret Tryz.prog 32 [.int .u8 op, .agg (exL x o c).toArray, .agg (exL y o' c').toArray] w fun v w' => ∃ b, v = .agg (exL (opE op x y) (some ⟨b, 0, none⟩) 2).toArray ∧ w.heap.size ≤ b ∧ w'.heap[b]? = some (.cells (exL x o c ++ exL y o' c').toArray 42 (0, 0)) ∧ Chg [] w w' := by
 refine ret_of [_, _, _] func32 rfl ntmps32 rfl ?_
 have st := St.init w []
 refine vc_seq (vc_region ?_)
 refine vc_e (e_bx (l := [_, _, _, _, _, _]) st rfl rfl rfl rfl ?_)
 intro b4 w hb4 st
 refine vc_e (e_bx (l := [_, _, _, _, _, _]) st rfl rfl rfl rfl ?_)
 intro b5 w hb5 st
 refine vc_e (e_al (l := [_, _, _, _, _, _]) st rfl rfl zeroValue42 rfl ?_)
 intro b6 w hb6 st
 refine vc_end (vq_then (vk4 0 4 5 6 (vc_seq (vc_region ?_))))
 refine ym ?_
 refine yla st 2 [_, _, _, _, _, _] isAgg42 sizeOf42 ?_
 refine yla st 1 [_, _, _, _, _, _] isAgg42 sizeOf42 ?_
 refine vc_e (e_bsn (l := exL x o c ++ exL y o' c') (E := 42) st [(0, _), (1, _)] rfl rfl rfl (fun w => by simp [Instr.buildSlice, run_underlying underlying40, sizeOf42, zeroValue42, Instr.fill, newRow, newObj, Sem.run, go_sem, Value.cells]) ?_)
 intro b10 w hb10 st
 refine vy (y_bld (.agg #[_, _, _, _, _, _]) [(0, _), (1, _), (4, _)] rfl (fun w => by simp [Instr.build, go_sem] <;> repeat' constructor)) ?_
 refine vc_e (e_sts (vs := [_, _, _, _, _, _]) st 1 rfl rfl rfl rfl rfl sizeOf42 rfl rfl (by (right; assumption)) ?_)
 intro w st; dsimp only [setNth, wr] at st
 refine vc_end (vq_then (vk1 6 (vc_ret ?_)))
 refine vq_ret1 st (.inl rfl) results32 (by exact .cell 1 rfl rfl isAgg42 sizeOf42) ?_
 refine ⟨_, rfl, ?_⟩
 exact ⟨b10, rfl, hb10, st.res (i := 0) rfl, st.chg⟩

theorem exprT_any (e : Ex) (hok : OkE e) (l : List Value) (w : World) (hV : ExV w (· < w.heap.size) e l) (hsg : Sig w) (hlen : (txtE e).length ≤ 1099511627776) :
    Ret Tryz.prog 15 [.agg l.toArray] w fun v w' => v = .tuple #[str (exprT e).1, .int .i64 ((exprT e).2 : Int)] ∧ Chg [] w w' := by
 refine ret_of [_] func15 rfl ntmps15 rfl ?_
 have st := St.init w []
 obtain ⟨w0, rfl⟩ : ∃ w0, w0 = w := ⟨_, rfl⟩
 have h0 := hsg.pos
 obtain ⟨oa, cap, rfl, hr⟩ := ExV.inv hV
 refine vc_seq (vc_region ?_)
 refine vc_e (e_bx (l := [_, _, _, _, _, _]) st rfl rfl rfl rfl ?_)
 intro b1 w hb1 st
 iterate 2 refine ya ?_
 refine vc_end (vq_then (vk1 1 (vc_seq (vc_seq (vc_region ?_)))))
 refine yla st 0 [_, _, _, _, _, _] isAgg42 sizeOf42 ?_
 refine vc_e (e_call [_, _] rfl rfl call46 rfl (expr_any _ e rfl 0 (by omega) _ _ (hV.kept (Same.of_nil st.chg)) (hsg.kept st.chg)) ?_)
 rintro _ w ⟨rfl, cw⟩
 replace st := st.call0 cw
 refine vy (y_not rfl) ?_
 refine vc_end (vq_then (vk2 1 7 ?_))
 refine vc_ifs rfl ?_ ?_
 ·intro hc7
  try simp only [dn] at hc7
  refine vc_seq (vc_region ?_)
  iterate 2 refine ya ?_
  refine vc_end (vq_then (vk2 2 3 (vc_ret (vq_then_ret ?_))))
  refine vq_ret2 st (.inl rfl) results15 (.tmp rfl) (.tmp rfl) ?_
  refine ⟨_, rfl, ?_⟩
  refine ⟨?_, st.chg⟩
  unfold exprT
  rw [if_neg (by simp_all)]; rfl
 ·intro hc7
  try simp only [dn] at hc7
  refine vc_code_skip (vq_then (vk1 1 (vc_seq (vc_region ?_))))
  refine yla st 0 [_, _, _, _, _, _] isAgg42 sizeOf42 ?_
  refine vc_e (e_call [_, _] rfl rfl call47 rfl (text_any _ e rfl 0 (by assumption) hok (.slice none 0 0) [] _ _ (hV.kept (Same.of_nil st.chg)) (World.ownsRow_nil _ 0 5 1) (fun k hk => by simp [Value.ownBlock] at hk) st.chg.size h0 (hsg.kept st.chg) (by simpa using hlen)) ?_)
  rintro r w ⟨l2, hp, hT⟩
  obtain ⟨o2, c2, hv2⟩ := slice_form hp.1
  subst hv2
  replace st := st.call0 (by simpa [Value.ownBlock] using hp.2.1)
  obtain ⟨t1, t2, -, -⟩ := hT
  simp only [List.length_nil, Nat.zero_add, List.nil_append] at t1 t2
  refine ya ?_
  refine vc_end (vq_then (vk1 4 (vc_seq (vc_seq (vc_region ?_)))))
  refine ym ?_
  refine vy (y_lensl rfl underlying78) ?_
  refine vy (y_gtr rfl rfl) ?_
  refine vc_end (vq_then (vk2 4 12 ?_))
  refine vc_ifs rfl ?_ ?_
  ·intro hc12
   try simp only [dn] at hc12
   refine vc_seq (vc_region ?_)
   iterate 2 refine ya ?_
   refine vc_end (vq_then (vk2 2 3 (vc_ret (vq_then_ret ?_))))
   refine vq_ret2 st (.inl rfl) results15 (.tmp rfl) (.tmp rfl) ?_
   refine ⟨_, rfl, ?_⟩
   refine ⟨?_, st.chg⟩
   have hlong : 65536 < (txtE e).length := by
    rcases Nat.lt_or_ge 65536 (txtE e).length with h | h
    ·exact h
    ·rw [t1 h] at *; omega
   unfold exprT
   rw [if_pos (by assumption), if_neg (by omega)]; rfl
  ·intro hc12
   try simp only [dn] at hc12
   refine vc_code_skip (vq_then (vk1 4 (vc_seq (vc_region ?_))))
   refine ym ?_
   refine vy (y_b2s rfl (p := l2) (own_rdp hp.1) rfl underlying78 underlying5 underlying9) ?_
   iterate 2 refine ya ?_
   refine vc_end (vq_then (vk2 2 3 (vc_ret ?_)))
   refine vq_ret2 st (.inl rfl) results15 (.tmp rfl) (.tmp rfl) ?_
   refine ⟨_, rfl, ?_⟩
   refine ⟨?_, st.chg⟩
   have hshort : (txtE e).length ≤ 65536 := by
    rcases Nat.lt_or_ge 65536 (txtE e).length with h | h
    ·have := t2 h; omega
    ·exact h
   unfold exprT
   rw [if_pos (by assumption), if_pos hshort, t1 hshort]; rfl

def eA : Ex := opE 2 (nameE [97]) (opE 2 (nameE [98]) (nameE [99]))
def eB : Ex := opE 1 (nameE [97]) (opE 3 (nameE [98]) (nameE [99]))
theorem exprT_A : exprT eA = ([97, 32, 45, 32, 40, 98, 32, 45, 32, 99, 41], 0) := by kernel_rfl
theorem exprT_B : exprT eB = ([97, 32, 43, 32, 98, 32, 42, 32, 99], 0) := by kernel_rfl
def sK : Sm := .mk 7 [] [] [] [] [] 0
def pA : Pg := ⟨[⟨[120], -3, 0⟩], [], [⟨[116], [], [sK], 0⟩]⟩
def pB : Pg := ⟨[], [⟨[105, 102], 0, 0⟩], []⟩
theorem pgRes_A : pgRes pA = ([115, 104, 97, 114, 101, 100, 32, 120, 32, 61, 32, 45, 51, 59, 10, 116, 104, 114, 101, 97, 100, 32, 116, 32, 123, 10, 32, 32, 115, 107, 105, 112, 59, 10, 125, 10], 0) := by kernel_rfl
theorem pgRes_B : pgRes pB = ([], 40) := by kernel_rfl
theorem len_A : (pgT pA).length ≤ 1099511627776 := by decide
theorem len_B : (pgT pB).length ≤ 1099511627776 := by decide
theorem nm_ok (s : List UInt8) : OkE (nameE s) := .mk (by simp [u8]) (by simp [u8]) (by simp [i64]) (by simp [i64]) (by simp) (fun j x h => by simp at h)
theorem op_ok {op : Int} {x y : Ex} (ho : u8 op) (hx : OkE x) (hy : OkE y) : OkE (opE op x y) := .mk (by simp [u8]) ho (by simp [i64]) (by simp [i64]) (by simp) (fun j z h => by
  match j, h with
  | 0, h => simp at h; subst h; exact hx
  | 1, h => simp at h; subst h; exact hy
  | j + 2, h => simp at h)
theorem eA_ok : OkE eA := op_ok (by simp [u8]) (nm_ok _) (op_ok (by simp [u8]) (nm_ok _) (nm_ok _))
theorem eB_ok : OkE eB := op_ok (by simp [u8]) (nm_ok _) (op_ok (by simp [u8]) (nm_ok _) (nm_ok _))
theorem sK_ok : OkS sK := .mk (by simp [u8]) (by simp [i64]) ⟨by simp, fun j x h => by simp at h⟩ (by simp) (fun j x h => by simp at h) (by simp) (fun j x h => by simp at h)
theorem pA_ok : OkP pA := by
 refine ⟨⟨by decide, fun j x h => ?_⟩, ⟨by decide, fun j x h => by simp [pA] at h⟩, ⟨by decide, fun j t h => ?_⟩⟩
 ·match j, h with
  | 0, h => simp [pA] at h; subst h; simp [i64]
  | j + 1, h => simp [pA] at h
 ·match j, h with
  | 0, h =>
   simp [pA] at h; subst h
   refine ⟨⟨by simp, fun j x h => by simp at h⟩, ⟨by simp, fun j x h => ?_⟩, by simp [i64]⟩
   match j, h with
   | 0, h => simp at h; subst h; exact sK_ok
   | j + 1, h => simp at h
  | j + 1, h => simp [pA] at h
theorem pB_ok : OkP pB := by
 refine ⟨⟨by decide, fun j x h => by simp [pB] at h⟩, ⟨by decide, fun j x h => ?_⟩, ⟨by decide, fun j t h => by simp [pB] at h⟩⟩
 match j, h with
 | 0, h => simp [pB] at h; subst h; simp [i64]
 | j + 1, h => simp [pB] at h
theorem smV_K (w : World) (S : Nat → Prop) : SmV w S sK (smL sK none none none 0 0 0) := .mk (fun _ => []) (fun _ => []) ⟨fun _ => [], .inl rfl, fun j x h => by simp at h⟩ (.inl rfl) (fun j x h => by simp at h) (.inl rfl) (fun j x h => by simp at h)

set_option maxHeartbeats 2000000 in
theorem begins_any (w : World) (hsg : Sig w) : Ret Tryz.prog 9 [] w fun v w' => v = .bool true ∧ Chg [] w w' := by
 refine ret_of [] func9 rfl ntmps9 rfl ?_
 have st := St.init w []
 obtain ⟨w0, rfl⟩ : ∃ w0, w0 = w := ⟨_, rfl⟩
 refine vc_seq (vc_region ?_)
 refine ya ?_
 refine vc_end (vq_then (vc_keep [] trivial (vc_seq (vc_region ?_))))
 refine vc_e (e_call [_] rfl rfl call33 rfl (name30_any _ _) ?_)
 rintro _ w ⟨rfl, cw⟩
 replace st := st.call0 cw
 refine vc_e (e_call [_] rfl rfl call33 rfl (name30_any _ _) ?_)
 rintro _ w ⟨rfl, cw⟩
 replace st := st.call0 cw
 refine vc_e (e_call [_] rfl rfl call33 rfl (name30_any _ _) ?_)
 rintro _ w ⟨rfl, cw⟩
 replace st := st.call0 cw
 refine vc_e (e_call [_, _, _] rfl rfl call32 rfl (binary_any 2 (nameE [98]) (nameE [99]) none none 0 0 _) ?_)
 rintro _ w ⟨d0, rfl, hd0, hh0, cw0⟩
 replace st := st.call0 cw0
 refine vc_e (e_call [_, _, _] rfl rfl call32 rfl (binary_any 2 (nameE [97]) (opE 2 (nameE [98]) (nameE [99])) none (some ⟨d0, 0, none⟩) 0 2 _) ?_)
 rintro _ w ⟨d1, rfl, hd1, hh1, cw1⟩
 replace st := st.call0 cw1
 refine vc_e (e_call [_] rfl rfl call15 rfl (exprT_any eA eA_ok _ _ (exV_two (op := 2) (x := nameE [97]) (y := opE 2 (nameE [98]) (nameE [99])) hh1 (Array.getElem?_eq_some_iff.1 hh1).1 (exV_name _ _ _) (exV_two (cw1.heap hh0 (by simp)) (Array.getElem?_eq_some_iff.1 (cw1.heap hh0 (by simp))).1 (exV_name _ _ _) (exV_name _ _ _))) (hsg.kept st.chg) (by decide)) ?_)
 rintro _ w ⟨rfl, cw⟩
 replace st := st.call0 cw
 rw [exprT_A]
 refine ym ?_
 iterate 2 refine vy (y_ext rfl rfl) ?_
 iterate 2 refine ya ?_
 refine vc_end (vq_then (vk2 1 2 (vc_seq (vc_region ?_))))
 refine vc_e (e_call [_] rfl rfl call33 rfl (name30_any _ _) ?_)
 rintro _ w ⟨rfl, cw⟩
 replace st := st.call0 cw
 refine vc_e (e_call [_] rfl rfl call33 rfl (name30_any _ _) ?_)
 rintro _ w ⟨rfl, cw⟩
 replace st := st.call0 cw
 refine vc_e (e_call [_] rfl rfl call33 rfl (name30_any _ _) ?_)
 rintro _ w ⟨rfl, cw⟩
 replace st := st.call0 cw
 refine vc_e (e_call [_, _, _] rfl rfl call32 rfl (binary_any 3 (nameE [98]) (nameE [99]) none none 0 0 _) ?_)
 rintro _ w ⟨d2, rfl, hd2, hh2, cw2⟩
 replace st := st.call0 cw2
 refine vc_e (e_call [_, _, _] rfl rfl call32 rfl (binary_any 1 (nameE [97]) (opE 3 (nameE [98]) (nameE [99])) none (some ⟨d2, 0, none⟩) 0 2 _) ?_)
 rintro _ w ⟨d3, rfl, hd3, hh3, cw3⟩
 replace st := st.call0 cw3
 refine vc_e (e_call [_] rfl rfl call15 rfl (exprT_any eB eB_ok _ _ (exV_two (op := 1) (x := nameE [97]) (y := opE 3 (nameE [98]) (nameE [99])) hh3 (Array.getElem?_eq_some_iff.1 hh3).1 (exV_name _ _ _) (exV_two (cw3.heap hh2 (by simp)) (Array.getElem?_eq_some_iff.1 (cw3.heap hh2 (by simp))).1 (exV_name _ _ _) (exV_name _ _ _))) (hsg.kept st.chg) (by decide)) ?_)
 rintro _ w ⟨rfl, cw⟩
 replace st := st.call0 cw
 rw [exprT_B]
 refine ym ?_
 iterate 2 refine vy (y_ext rfl rfl) ?_
 iterate 2 refine ya ?_
 refine vc_end (vq_then (vk4 1 2 3 4 (vc_seq (vc_region ?_))))
 refine vy (y_bld (.agg #[_, _, _]) [(0, _), (1, _)] rfl (fun w => by simp [Instr.build, go_sem] <;> repeat' constructor)) ?_
 refine vc_e (e_bs1 (l := [_, _, _]) st rfl rfl rfl rfl underlying23 sizeOf63 rfl rfl rfl zeroValue63 ?_)
 intro b27 w hb27 st
 refine vy (y_bld (.agg #[_, _, _, _, _, _, _]) [(0, _)] rfl (fun w => by simp [Instr.build, go_sem] <;> repeat' constructor)) ?_
 refine vc_e (e_bs1 (l := [_, _, _, _, _, _, _]) st rfl rfl rfl rfl underlying65 sizeOf67 rfl rfl rfl zeroValue67 ?_)
 intro b29 w hb29 st
 refine vy (y_bld (.agg #[_, _, _, _]) [(0, _), (2, _)] rfl (fun w => by simp [Instr.build, go_sem] <;> repeat' constructor)) ?_
 refine vc_e (e_bs1 (l := [_, _, _, _]) st rfl rfl rfl rfl underlying24 sizeOf69 rfl rfl rfl zeroValue69 ?_)
 intro b31 w hb31 st
 refine vy (y_bld (.agg #[_, _, _]) [(0, _), (2, _)] rfl (fun w => by simp [Instr.build, go_sem] <;> repeat' constructor)) ?_
 refine vc_e (e_call [_] rfl rfl call11 rfl (wprintP_any pA _ _ _ _ _ _ _ (rowC_one (st.res (i := 2) rfl) (Array.getElem?_eq_some_iff.1 (st.res (i := 2) rfl)).1 rfl rfl) (.inl rfl) ⟨fun _ => thL ⟨[116], [], [sK], 0⟩ none _ 0 _, rowC_one (st.res (i := 0) rfl) (Array.getElem?_eq_some_iff.1 (st.res (i := 0) rfl)).1 rfl rfl, fun j x hj => by
     match j, hj with
     | 0, hj => simp [pA] at hj; subst hj; exact ⟨none, 0, _, _, rfl, .inl rfl, fun _ => smL sK none none none 0 0 0, rowC_one (st.res (i := 1) rfl) (Array.getElem?_eq_some_iff.1 (st.res (i := 1) rfl)).1 rfl rfl, fun j x hj => by
         match j, hj with
         | 0, hj => simp at hj; subst hj; exact smV_K _ _
         | j + 1, hj => simp at hj⟩
     | j + 1, hj => simp [pA] at hj⟩ pA_ok (hsg.kept st.chg) (fun _ => len_A)) ?_)
 rintro _ w ⟨rfl, cw⟩
 replace st := st.call0 cw
 rw [pgRes_A]
 refine ym ?_
 iterate 2 refine vy (y_ext rfl rfl) ?_
 iterate 2 refine ya ?_
 refine vc_end (vq_then (vk6 1 2 3 4 5 6 (vc_seq (vc_region ?_))))
 refine ym ?_
 refine vy (y_eqi rfl rfl) ?_
 refine vmb ?_ ?_
 ·intro hg38
  try simp only [dn] at hg38
  refine ym ?_
  refine vy (y_eqs rfl rfl) ?_
  refine ypt ?_
  refine vmb ?_ ?_
  ·intro hg42
   try simp only [dn] at hg42
   refine ym ?_
   refine vy (y_eqi rfl rfl) ?_
   refine ypt ?_
   refine vmb ?_ ?_
   ·intro hg46
    try simp only [dn] at hg46
    refine ym ?_
    refine vy (y_eqs rfl rfl) ?_
    refine ypt ?_
    refine vmb ?_ ?_
    ·intro hg50
     try simp only [dn] at hg50
     refine ym ?_
     refine vy (y_eqi rfl rfl) ?_
     refine ypt ?_
     refine vmb ?_ ?_
     ·intro hg54
      try simp only [dn] at hg54
      refine ym ?_
      refine vy (y_eqs rfl rfl) ?_
      refine ypt ?_
      refine vmb ?_ ?_
      ·intro hg58
       try simp only [dn] at hg58
       refine vy (y_bld (.agg #[_, _, _]) [(0, _)] rfl (fun w => by simp [Instr.build, go_sem] <;> repeat' constructor)) ?_
       refine vc_e (e_bs1 (l := [_, _, _]) st rfl rfl rfl rfl underlying23 sizeOf63 rfl rfl rfl zeroValue63 ?_)
       intro b60 w hb60 st
       refine vy (y_bld (.agg #[_, _, _]) [(1, _)] rfl (fun w => by simp [Instr.build, go_sem] <;> repeat' constructor)) ?_
       refine vc_e (e_call [_] rfl rfl call34 rfl (wcheckP_any pB _ _ _ _ _ _ _ (.inl rfl) (rowC_one (st.res (i := 0) rfl) (Array.getElem?_eq_some_iff.1 (st.res (i := 0) rfl)).1 rfl rfl) ⟨fun _ => [], .inl rfl, fun j x hj => by simp [pB] at hj⟩ pB_ok (hsg.kept st.chg) (fun _ => len_B)) ?_)
       rintro _ w ⟨rfl, cw⟩
       replace st := st.call0 cw
       rw [pgRes_B]
       refine vy (y_eqi rfl rfl) ?_
       refine ypt ?_
       refine ya ?_
       refine vc_end (vq_then (vk1 0 (vc_ret ?_)))
       refine vq_ret1 st (.inl rfl) results9 (.tmp rfl) ?_
       refine ⟨_, rfl, ?_⟩
       exact ⟨rfl, st.chg⟩
      ·intro hg58
       try simp only [dn] at hg58
       iterate 5 refine vsk ?_
       refine ypf ?_
       refine ya ?_
       refine vc_end (vq_then (vk1 0 (vc_ret ?_)))
       refine vq_ret1 st (.inl rfl) results9 (.tmp rfl) ?_
       refine ⟨_, rfl, ?_⟩
       (exfalso; simp_all; done)
     ·intro hg54
      try simp only [dn] at hg54
      iterate 2 refine vsk ?_
      refine ypf ?_
      refine ym ?_
      iterate 5 refine vsk ?_
      refine ypf ?_
      refine ya ?_
      refine vc_end (vq_then (vk1 0 (vc_ret ?_)))
      refine vq_ret1 st (.inl rfl) results9 (.tmp rfl) ?_
      refine ⟨_, rfl, ?_⟩
      (exfalso; simp_all; done)
    ·intro hg50
     try simp only [dn] at hg50
     iterate 2 refine vsk ?_
     refine ypf ?_
     refine ym ?_
     iterate 2 refine vsk ?_
     refine ypf ?_
     refine ym ?_
     iterate 5 refine vsk ?_
     refine ypf ?_
     refine ya ?_
     refine vc_end (vq_then (vk1 0 (vc_ret ?_)))
     refine vq_ret1 st (.inl rfl) results9 (.tmp rfl) ?_
     refine ⟨_, rfl, ?_⟩
     (exfalso; simp_all; done)
   ·intro hg46
    try simp only [dn] at hg46
    iterate 2 refine vsk ?_
    refine ypf ?_
    refine ym ?_
    iterate 2 refine vsk ?_
    refine ypf ?_
    refine ym ?_
    iterate 2 refine vsk ?_
    refine ypf ?_
    refine ym ?_
    iterate 5 refine vsk ?_
    refine ypf ?_
    refine ya ?_
    refine vc_end (vq_then (vk1 0 (vc_ret ?_)))
    refine vq_ret1 st (.inl rfl) results9 (.tmp rfl) ?_
    refine ⟨_, rfl, ?_⟩
    (exfalso; simp_all; done)
  ·intro hg42
   try simp only [dn] at hg42
   iterate 2 refine vsk ?_
   refine ypf ?_
   refine ym ?_
   iterate 2 refine vsk ?_
   refine ypf ?_
   refine ym ?_
   iterate 2 refine vsk ?_
   refine ypf ?_
   refine ym ?_
   iterate 2 refine vsk ?_
   refine ypf ?_
   refine ym ?_
   iterate 5 refine vsk ?_
   refine ypf ?_
   refine ya ?_
   refine vc_end (vq_then (vk1 0 (vc_ret ?_)))
   refine vq_ret1 st (.inl rfl) results9 (.tmp rfl) ?_
   refine ⟨_, rfl, ?_⟩
   (exfalso; simp_all; done)
 ·intro hg38
  try simp only [dn] at hg38
  iterate 2 refine vsk ?_
  refine ypf ?_
  refine ym ?_
  iterate 2 refine vsk ?_
  refine ypf ?_
  refine ym ?_
  iterate 2 refine vsk ?_
  refine ypf ?_
  refine ym ?_
  iterate 2 refine vsk ?_
  refine ypf ?_
  refine ym ?_
  iterate 2 refine vsk ?_
  refine ypf ?_
  refine ym ?_
  iterate 5 refine vsk ?_
  refine ypf ?_
  refine ya ?_
  refine vc_end (vq_then (vk1 0 (vc_ret ?_)))
  refine vq_ret1 st (.inl rfl) results9 (.tmp rfl) ?_
  refine ⟨_, rfl, ?_⟩
  (exfalso; simp_all; done)

end
end Go.Proofs.YtnmhlpnapgojjaaGreatDoor


namespace Go.Proofs.YtnmhlpnapgojjaaGreatDoor
open Go.RowKit Sx LexS _root_.Go.Proofs.Tryz
/-- what the closures turn names and places by, and where these lie -/
structure Env where
 g : List UInt8 → List UInt8
 h : Int → Int
 fn : Nat
 fa : Nat
 cn : List Value
 ca : List Value
 bn : Nat
 ba : Nat
 be : Nat
 bs : Nat
 E : List Nat
 ψ : World → Prop
namespace Env
def pn (e : Env) : Value := .pointer (some ⟨e.bn, 0, none⟩)
def pa (e : Env) : Value := .pointer (some ⟨e.ba, 0, none⟩)
def pe (e : Env) : Value := .pointer (some ⟨e.be, 0, none⟩)
def ps (e : Env) : Value := .pointer (some ⟨e.bs, 0, none⟩)
/-- the boxes of the two functions -/
def in2 (e : Env) (w : World) : Prop := w.heap[e.bn]? = some (.cells [.func (.func e.fn) #[] e.cn.toArray].toArray 95 (0, 0)) ∧ w.heap[e.ba]? = some (.cells [.func (.func e.fa) #[] e.ca.toArray].toArray 97 (0, 0)) ∧ e.ψ w
def in3 (e : Env) (w : World) : Prop := e.in2 w ∧ w.heap[e.be]? = some (.cells [.func (.func 119) #[] [e.pn, e.pa, e.pe].toArray].toArray 102 (0, 0))
def in4 (e : Env) (w : World) : Prop := e.in3 w ∧ w.heap[e.bs]? = some (.cells [.func (.func 120) #[] [e.pn, e.pa, e.pe, e.ps].toArray].toArray 103 (0, 0))
structure Ok (e : Env) : Prop where
 nm : ∀ s w, e.ψ w → Ret Tryz.prog e.fn ([] ++ [str s] ++ e.cn) w fun v w' => v = str (e.g s) ∧ w' = w
 at_ : ∀ a w, e.ψ w → Ret Tryz.prog e.fa ([] ++ [.int .i64 a] ++ e.ca) w fun v w' => v = .int .i64 (e.h a) ∧ w' = w
 loc : ∀ w w', e.ψ w → (∀ b ∈ e.E, w'.heap[b]? = w.heap[b]?) → e.ψ w'
 mn : e.bn ∈ e.E
 ma : e.ba ∈ e.E
 me : e.be ∈ e.E
 ms : e.bs ∈ e.E
 calln : ∀ (xs : Array Value) w, (callFunc e.fn xs).run Tryz.prog w = .ok (.enter e.fn xs) w
 calla : ∀ (xs : Array Value) w, (callFunc e.fa xs).run Tryz.prog w = .ok (.enter e.fa xs) w
variable {e : Env} {w w' : World}
theorem in2.kept (ok : e.Ok) (h : e.in2 w) (hk : ∀ b ∈ e.E, w'.heap[b]? = w.heap[b]?) : e.in2 w' := ⟨by rw [hk _ ok.mn]; exact h.1, by rw [hk _ ok.ma]; exact h.2.1, ok.loc _ _ h.2.2 hk⟩
theorem in3.kept (ok : e.Ok) (h : e.in3 w) (hk : ∀ b ∈ e.E, w'.heap[b]? = w.heap[b]?) : e.in3 w' := ⟨in2.kept ok h.1 hk, by rw [hk _ ok.me]; exact h.2⟩
theorem in4.kept (ok : e.Ok) (h : e.in4 w) (hk : ∀ b ∈ e.E, w'.heap[b]? = w.heap[b]?) : e.in4 w' := ⟨in3.kept ok h.1 hk, by rw [hk _ ok.ms]; exact h.2⟩
end Env
section
variable {e : Env} {cap : Nat}
theorem loc_dc {oa : Option Addr} {ds : List Dc} {S : List Nat} : Sx.Loc S fun w => DcRQ w oa cap ds S := loc_of fun a b h hk => h.kept hk
theorem loc_ex {oa : Option Addr} {ds : List Ex} {S : List Nat} : Sx.Loc S fun w => ExRQ w oa cap ds S := loc_of fun a b h hk => h.kept hk
theorem loc_sm {oa : Option Addr} {ds : List Sm} {S : List Nat} : Sx.Loc S fun w => SmRQ w oa cap ds S := loc_of fun a b h hk => h.kept hk
theorem loc_th {oa : Option Addr} {ds : List Th} {S : List Nat} : Sx.Loc S fun w => ThRQ w oa cap ds S := loc_of fun a b h hk => h.kept hk
end
section

set_option maxHeartbeats 1000000 in
theorem dl_any (e : Env) (ok : e.Ok) (ds : List Dc) (hn : ds.length ≤ 1099511627776) (oa : Option Addr) (cap : Nat) (S : List Nat) (w : World) (hQ : DcRQ w oa cap ds S) (hS : S.Nodup) (hE : e.in2 w) (hEl : ∀ b ∈ e.E, b < w.heap.size) (hd : ∀ b ∈ S, b ∉ e.E) :
    Ret Tryz.prog 118 ([] ++ [.slice oa ds.length cap] ++ [e.pn, e.pa]) w fun v w' => v = .tuple #[] ∧ DcRQ w' oa cap (ds.map (trD e.g e.h)) S ∧ Chg S w w' := by
 refine ret_of [_, _, _] func118 rfl ntmps118 rfl ?_
 have st := St.init w S
 clear st
 obtain ⟨w0, rfl⟩ : ∃ w0, w0 = w := ⟨_, rfl⟩
 have st := St.two (w := w0) (φ := fun w => DcRQ w oa cap ds S) (ψ := e.in2) hQ hE hQ.lt hEl loc_dc (loc_of fun a b h hk => Env.in2.kept ok h hk) hd
 have hSM : ∀ k ∈ S, k ∈ S ∨ w0.heap.size ≤ k := fun k hk => .inl hk
 refine vc_seq (vc_region ?_)
 refine ym ?_
 refine vy (y_lensl rfl underlying23) ?_
 refine ym ?_
 refine vc_end (vq_then (vk5 0 1 2 6 7 (vc_block ?_)))
 refine vc_loop (w0 := w0) (M := S) (fun (j : Nat) => [(0, .slice oa ds.length cap), (1, e.pn), (2, e.pa), (6, .int .i64 (ds.length : Int)), (7, .int .i64 (j : Int))]) (fun j => [.tree S (fun w => DcRQ w oa cap (mixL (trD e.g e.h) ds j) S), .tree e.E e.in2]) (fun j _ => j ≤ ds.length) (fun j => ds.length - j) 0 ⟨rfl, rfl, rfl, rfl, rfl, trivial⟩ (by simpa only [mixL_zero] using st) (by omega) ?_
 clear st
 rintro j w hj st
 refine vc_seq (vc_region ?_)
 refine vy (y_lss rfl rfl) ?_
 refine vc_end (vq_then (vk6 0 1 2 6 7 8 (vc_seq ?_)))
 refine vc_ifs rfl ?_ ?_
 ·intro hc8
  try simp only [dn] at hc8
  obtain ⟨x, hx⟩ : ∃ x, ds[j]? = some x := ⟨_, List.getElem?_eq_getElem (by omega)⟩
  have hmx := mixL_get (f := trD e.g e.h) hx
  have stK := st
  obtain ⟨b, rfl, hrow, hcells, -, -⟩ := dcR_focus (st.res (i := 0) rfl).1 hmx
  have st := stK
  clear stK
  have hcell0 : ∀ w, DcRQ w (some ⟨b, 0, none⟩) cap (mixL (trD e.g e.h) ds j) S → w.cell? ⟨b, j * 3 + 0, none⟩ = some (str x.nm) ∧ w.cell? ⟨b, j * 3 + 2, none⟩ = some (.int .i64 x.a) := fun w h => by
   obtain ⟨b', hb', -, hc, -, -⟩ := dcR_focus h hmx
   simp only [Option.some.injEq, Addr.mk.injEq, and_true] at hb'
   subst hb'
   exact ⟨hc 0 _ rfl, hc 2 _ rfl⟩
  refine vc_code_skip (vq_then (vk5 0 1 2 6 7 (vc_seq (vc_block (vc_seq (vc_region ?_))))))
  refine ym ?_
  refine ya ?_
  refine vc_end (vq_then (vk6 0 1 2 4 6 7 ?_))
  refine vk_draw Tryz.mixed [(0, true), (1, true), (2, true), (3, true), (5, true), (6, true), (7, true), (8, true), (12, true), (13, true), (14, true), (15, true), (4, true), (9, true), (11, true), (16, true), (10, false), (17, false), (18, true), (19, true), (20, false), (21, true), (22, true), (23, false)] 20 (fun w => St _ _ [.tree S (fun w => DcRQ w (some ⟨b, 0, none⟩) cap (mixL (trD e.g e.h) ds j) S), .tree e.E e.in2] w) (by exact st) (by kernel_rfl) (by repeat (first | exact okQ_body | refine okQ_then ?_ | refine okQ_block ?_)) rfl (by kernel_rfl) rfl ?_
  intro w cd; replace st := st.call0 cd; clear cd
  have hS : St _ _ [.tree S (fun w => DcRQ w (some ⟨b, 0, none⟩) cap (mixL (trD e.g e.h) ds j) S), .tree e.E e.in2] w := (by exact st)
  iterate 6 refine vk_takeU rfl rfl rfl rfl (fun _ => hS) (fun w => y_mv rfl) ?_
  refine vk_takeU rfl rfl rfl rfl (fun _ => hS) (fun w => (by exact y_ia0 (k := j) rfl rfl underlying23 sizeOf63 rfl (by omega))) ?_
  refine vk_takeU rfl rfl rfl rfl (fun _ => hS) (fun w => y_fa0 rfl underlying63 rfl rfl sizeOf9 rfl) ?_
  iterate 2 refine vk_takeU rfl rfl rfl rfl (fun _ => hS) (fun w => y_mv rfl) ?_
  refine vk_takeU rfl rfl rfl rfl (fun _ => hS) (fun w => (by exact y_ia0 (k := j) rfl rfl underlying23 sizeOf63 rfl (by omega))) ?_
  refine vk_takeU rfl rfl rfl rfl (fun _ => hS) (fun w => (by exact y_fa (k := 2) rfl underlying63 rfl rfl sizeOf3 rfl)) ?_
  refine vk_take rfl rfl rfl rfl hS (fun w st => y_ldc rfl isAgg95 (cell_nth (st.res (i := 1) rfl).1.1 rfl)) ?_
  refine vk_take rfl rfl rfl rfl hS (fun w st => y_ldc rfl isAgg9 (hcell0 _ (st.res (i := 0) rfl).1).1) ?_
  refine vk_take rfl rfl rfl rfl hS (fun w st => y_ldc rfl isAgg97 (cell_nth (st.res (i := 1) rfl).1.2.1 rfl)) ?_
  refine vk_take rfl rfl rfl rfl hS (fun w st => y_ldc rfl isAgg3 (hcell0 _ (st.res (i := 0) rfl).1).2) ?_
  refine vk_do rfl rfl (e_callv [_] rfl rfl rfl ok.calln rfl (ok.nm x.nm _ (st.res (i := 1) rfl).1.2.2) ?_)
  rintro _ _ ⟨rfl, rfl⟩
  refine vk_next (by exact st) ?_; intro hS
  refine vk_do rfl rfl (e_callv [_] rfl rfl rfl ok.calla rfl (ok.at_ x.a _ (st.res (i := 1) rfl).1.2.2) ?_)
  rintro _ _ ⟨rfl, rfl⟩
  refine vk_next (by exact st) ?_; intro hS
  refine vk_takeU rfl rfl rfl rfl (fun _ => hS) (fun w => (by exact y_ia0 (k := j) rfl rfl underlying23 sizeOf63 rfl (by omega))) ?_
  refine vk_takeU rfl rfl rfl rfl (fun _ => hS) (fun w => y_fa0 rfl underlying63 rfl rfl sizeOf9 rfl) ?_
  obtain ⟨b1, hb1, r1, c1, s1, -⟩ := dcR_focus (st.res (i := 0) rfl).1 hmx
  simp only [Option.some.injEq, Addr.mk.injEq, and_true] at hb1
  subst hb1
  refine vk_do rfl rfl (e_stT st 0 (ψ := fun w => DcRQ w (some ⟨b, 0, none⟩) cap ((mixL (trD e.g e.h) ds j).set j { x with nm := e.g x.nm }) S) rfl rfl rfl rfl sizeOf9 rfl r1.mem (hSM _ r1.mem) ⟨_, c1 0 _ rfl⟩ (r1.fz _) (s1 _) loc_dc ?_)
  intro w st; dsimp only [setNth] at st
  refine vk_late ?_
  refine vk_takeU rfl rfl rfl rfl (fun h => by cases h) (fun w => (by exact y_ia0 (k := j) rfl rfl underlying23 sizeOf63 rfl (by omega))) ?_
  refine vk_takeU rfl rfl rfl rfl (fun h => by cases h) (fun w => (by exact y_fa (k := 2) rfl underlying63 rfl rfl sizeOf3 rfl)) ?_
  have hmx2 : ((mixL (trD e.g e.h) ds j).set j { x with nm := e.g x.nm })[j]? = some { x with nm := e.g x.nm } := by rw [List.getElem?_set_self (by rw [mixL_len]; omega)]
  obtain ⟨b2, hb2, r2, c2, -, s2⟩ := dcR_focus (st.res (i := 0) rfl).1 hmx2
  simp only [Option.some.injEq, Addr.mk.injEq, and_true] at hb2
  subst hb2
  have hstep : ((mixL (trD e.g e.h) ds j).set j { x with nm := e.g x.nm }).set j { ({ x with nm := e.g x.nm } : Dc) with a := e.h x.a } = mixL (trD e.g e.h) ds (j + 1) := by rw [List.set_set]; exact mixL_step (f := trD e.g e.h) hx
  refine vk_do rfl rfl (e_stT st 0 (ψ := fun w => DcRQ w (some ⟨b, 0, none⟩) cap (mixL (trD e.g e.h) ds (j + 1)) S) rfl rfl rfl rfl sizeOf3 rfl r2.mem (hSM _ r2.mem) ⟨_, c2 2 _ rfl⟩ (r2.fz _) (hstep ▸ s2 (e.h x.a)) loc_dc ?_)
  intro w st; dsimp only [setNth] at st
  refine vk_late ?_
  refine vk_end ?_
  refine vq_block (vq_then (vk5 0 1 2 6 7 (vc_region ?_)))
  refine vy (y_add rfl rfl (by omega : _ = ((j + 1 : Nat) : Int)) (by omega) (by omega)) ?_
  refine ym ?_
  refine vc_end ?_
  refine vq_again (j + 1)  ⟨rfl, rfl, rfl, rfl, rfl, trivial⟩ st ?_ ?_
  ·omega
  ·omega
 ·intro hc8
  try simp only [dn] at hc8
  refine vc_exit (vq_then_exit (vq_then_exit (vq_block_exit ?_)))
  refine vq_ret0 (.inr rfl) results118 ?_
  refine ⟨_, rfl, ?_⟩
  obtain rfl : j = ds.length := by omega
  rw [mixL_all] at st
  exact ⟨rfl, (st.res (i := 0) rfl).1, st.chg⟩

end
end Go.Proofs.YtnmhlpnapgojjaaGreatDoor


namespace Go.Proofs.YtnmhlpnapgojjaaGreatDoor
open Go.RowKit Sx LexS _root_.Go.Proofs.Tryz
theorem trEs_len {g : List UInt8 → List UInt8} {h : Int → Int} (l : List Ex) : (trEs g h l).length = l.length := by rw [trEs_map, List.length_map]
theorem trSs_len {g : List UInt8 → List UInt8} {h : Int → Int} (l : List Sm) : (trSs g h l).length = l.length := by rw [trSs_map, List.length_map]
/-- an expression, its name and place turned -/
def eNA (e : Env) (x : Ex) : Ex := (x.setNm (e.g x.nm)).setAt (e.h x.a)
theorem eNA_kids (e : Env) (x : Ex) : (eNA e x).kids = x.kids := by cases x; rfl
theorem eNA_end (e : Env) (x : Ex) : (eNA e x).setKids (trEs e.g e.h x.kids) = trE e.g e.h x := by cases x; rfl
theorem set_get {α : Type} {l : List α} {j : Nat} {x y : α} (h : l[j]? = some x) : (l.set j y)[j]? = some y := by
 rw [List.getElem?_set_self (List.getElem?_eq_some_iff.1 h).1]

set_option maxHeartbeats 2000000 in
theorem el_any (e : Env) (ok : e.Ok) : ∀ (n : Nat) (es : List Ex), szo es = n → OkEs es → ∀ (oa : Option Addr) (cap : Nat) (S : List Nat) (w : World), ExRQ w oa cap es S → S.Nodup → e.in3 w → (∀ b ∈ e.E, b < w.heap.size) → (∀ b ∈ S, b ∉ e.E) →
    Ret Tryz.prog 119 ([] ++ [.slice oa es.length cap] ++ [e.pn, e.pa, e.pe]) w fun v w' => v = .tuple #[] ∧ ExRQ w' oa cap (trEs e.g e.h es) S ∧ Chg S w w' := by
 intro n
 refine Nat.strongRecOn n fun n ih => ?_
 intro es hn hok oa cap S w hQ hSN hE hEl hd
 subst hn
 have hn := hok.1
 refine ret_of [_, _, _, _] func119 rfl ntmps119 rfl ?_
 have st := St.init w S
 clear st
 obtain ⟨w0, rfl⟩ : ∃ w0, w0 = w := ⟨_, rfl⟩
 have st := St.two (w := w0) (φ := fun w => ExRQ w oa cap es S) (ψ := e.in3) hQ hE hQ.lt hEl loc_ex (loc_of fun a b h hk => Env.in3.kept ok h hk) hd
 have hSM : ∀ k ∈ S, k ∈ S ∨ w0.heap.size ≤ k := fun k hk => .inl hk
 refine vc_seq (vc_region ?_)
 refine ym ?_
 refine vy (y_lensl rfl underlying40) ?_
 refine ym ?_
 refine vc_end (vq_then (vk6 0 1 2 3 7 8 (vc_block ?_)))
 refine vc_loop (w0 := w0) (M := S) (fun (j : Nat) => [(0, .slice oa es.length cap), (1, e.pn), (2, e.pa), (3, e.pe), (7, .int .i64 (es.length : Int)), (8, .int .i64 (j : Int))]) (fun j => [.tree S (fun w => ExRQ w oa cap (mixL (trE e.g e.h) es j) S), .tree e.E e.in3]) (fun j _ => j ≤ es.length) (fun j => es.length - j) 0 ⟨rfl, rfl, rfl, rfl, rfl, rfl, trivial⟩ (by simpa only [mixL_zero] using st) (by omega) ?_
 clear st
 rintro j w hj st
 refine vc_seq (vc_region ?_)
 refine vy (y_lss rfl rfl) ?_
 refine vc_end (vq_then (vk7 0 1 2 3 7 8 9 (vc_seq ?_)))
 refine vc_ifs rfl ?_ ?_
 ·intro hc9
  try simp only [dn] at hc9
  obtain ⟨x, hx⟩ : ∃ x, es[j]? = some x := ⟨_, List.getElem?_eq_getElem (by omega)⟩
  have hkx := hok.2 j x hx
  have hz := mem_size hx
  have hz2 : szo x.kids < szo es := by have := szo_kids x; omega
  have hmx := mixL_get (f := trE e.g e.h) hx
  have hm1 : ((mixL (trE e.g e.h) es j).set j (x.setNm (e.g x.nm)))[j]? = some (x.setNm (e.g x.nm)) := set_get hmx
  have hm2 : ((mixL (trE e.g e.h) es j).set j (eNA e x))[j]? = some (eNA e x) := set_get hmx
  have hs12 : ((mixL (trE e.g e.h) es j).set j (x.setNm (e.g x.nm))).set j ((x.setNm (e.g x.nm)).setAt (e.h x.a)) = (mixL (trE e.g e.h) es j).set j (eNA e x) := List.set_set ..
  have hs23 : ((mixL (trE e.g e.h) es j).set j (eNA e x)).set j ((eNA e x).setKids (trEs e.g e.h x.kids)) = mixL (trE e.g e.h) es (j + 1) := by rw [List.set_set, eNA_end]; exact mixL_step hx
  have stK := st
  obtain ⟨b, o0, c0, S0, rfl, -⟩ := exR_focus (st.res (i := 0) rfl).1 hSN hmx
  have st := stK
  clear stK
  have hcell0 : ∀ w, ExRQ w (some ⟨b, 0, none⟩) cap (mixL (trE e.g e.h) es j) S → w.cell? ⟨b, j * 6 + 3, none⟩ = some (str x.nm) ∧ w.cell? ⟨b, j * 6 + 5, none⟩ = some (.int .i64 x.a) := fun w h => by
   obtain ⟨b', o', c', S', hb', -, hc, -⟩ := exR_focus h hSN hmx
   simp only [Option.some.injEq, Addr.mk.injEq, and_true] at hb'
   subst hb'
   exact ⟨hc 3 _ rfl, hc 5 _ rfl⟩
  refine vc_code_skip (vq_then (vk6 0 1 2 3 7 8 (vc_seq (vc_block (vc_seq (vc_region ?_))))))
  refine ym ?_
  refine ya ?_
  refine vc_end (vq_then (vk7 0 1 2 3 5 7 8 (vc_seq ?_)))
  refine vk_draw Tryz.mixed [(0, true), (1, true), (2, true), (3, true), (5, true), (6, true), (7, true), (8, true), (12, true), (13, true), (14, true), (15, true), (4, true), (9, true), (11, true), (16, true), (10, false), (17, false), (18, true), (19, true), (20, false), (21, true), (22, true), (23, false)] 20 (fun w => St _ _ [.tree S (fun w => ExRQ w (some ⟨b, 0, none⟩) cap (mixL (trE e.g e.h) es j) S), .tree e.E e.in3] w) (by exact st) (by kernel_rfl) (by repeat (first | exact okQ_body | refine okQ_then ?_ | refine okQ_block ?_)) rfl (by kernel_rfl) rfl ?_
  intro w cd; replace st := st.call0 cd; clear cd
  have hS : St _ _ [.tree S (fun w => ExRQ w (some ⟨b, 0, none⟩) cap (mixL (trE e.g e.h) es j) S), .tree e.E e.in3] w := (by exact st)
  iterate 6 refine vk_takeU rfl rfl rfl rfl (fun _ => hS) (fun w => y_mv rfl) ?_
  refine vk_takeU rfl rfl rfl rfl (fun _ => hS) (fun w => (by exact y_ia0 (k := j) rfl rfl underlying40 sizeOf42 rfl (by omega))) ?_
  refine vk_takeU rfl rfl rfl rfl (fun _ => hS) (fun w => (by exact y_fa (k := 3) rfl underlying42 rfl rfl sizeOf9 rfl)) ?_
  iterate 2 refine vk_takeU rfl rfl rfl rfl (fun _ => hS) (fun w => y_mv rfl) ?_
  refine vk_takeU rfl rfl rfl rfl (fun _ => hS) (fun w => (by exact y_ia0 (k := j) rfl rfl underlying40 sizeOf42 rfl (by omega))) ?_
  refine vk_takeU rfl rfl rfl rfl (fun _ => hS) (fun w => (by exact y_fa (k := 5) rfl underlying42 rfl rfl sizeOf3 rfl)) ?_
  refine vk_take rfl rfl rfl rfl hS (fun w st => y_ldc rfl isAgg95 (cell_nth (st.res (i := 1) rfl).1.1.1 rfl)) ?_
  refine vk_take rfl rfl rfl rfl hS (fun w st => y_ldc rfl isAgg9 (hcell0 _ (st.res (i := 0) rfl).1).1) ?_
  refine vk_take rfl rfl rfl rfl hS (fun w st => y_ldc rfl isAgg97 (cell_nth (st.res (i := 1) rfl).1.1.2.1 rfl)) ?_
  refine vk_take rfl rfl rfl rfl hS (fun w st => y_ldc rfl isAgg3 (hcell0 _ (st.res (i := 0) rfl).1).2) ?_
  refine vk_do rfl rfl (e_callv [_] rfl rfl rfl ok.calln rfl (ok.nm x.nm _ (st.res (i := 1) rfl).1.1.2.2) ?_)
  rintro _ _ ⟨rfl, rfl⟩
  refine vk_next (by exact st) ?_; intro hS
  refine vk_do rfl rfl (e_callv [_] rfl rfl rfl ok.calla rfl (ok.at_ x.a _ (st.res (i := 1) rfl).1.1.2.2) ?_)
  rintro _ _ ⟨rfl, rfl⟩
  refine vk_next (by exact st) ?_; intro hS
  refine vk_takeU rfl rfl rfl rfl (fun _ => hS) (fun w => (by exact y_ia0 (k := j) rfl rfl underlying40 sizeOf42 rfl (by omega))) ?_
  refine vk_takeU rfl rfl rfl rfl (fun _ => hS) (fun w => (by exact y_fa (k := 3) rfl underlying42 rfl rfl sizeOf9 rfl)) ?_
  obtain ⟨b1, o1, c1, S1, hb1, r1, k1, -, -, -, s1, -⟩ := exR_focus (st.res (i := 0) rfl).1 hSN hmx
  simp only [Option.some.injEq, Addr.mk.injEq, and_true] at hb1
  subst hb1
  refine vk_do rfl rfl (e_stT st 0 (ψ := fun w => ExRQ w (some ⟨b, 0, none⟩) cap ((mixL (trE e.g e.h) es j).set j (x.setNm (e.g x.nm))) S) rfl rfl rfl rfl sizeOf9 rfl r1.mem (hSM _ r1.mem) ⟨_, k1 3 _ rfl⟩ (r1.fz _) (s1 _) loc_ex ?_)
  intro w st; dsimp only [setNth] at st
  refine vk_late ?_
  refine vk_takeU rfl rfl rfl rfl (fun h => by cases h) (fun w => (by exact y_ia0 (k := j) rfl rfl underlying40 sizeOf42 rfl (by omega))) ?_
  refine vk_takeU rfl rfl rfl rfl (fun h => by cases h) (fun w => (by exact y_fa (k := 5) rfl underlying42 rfl rfl sizeOf3 rfl)) ?_
  obtain ⟨b2, o2, c2, S2, hb2, r2, k2, -, -, -, -, s2, -⟩ := exR_focus (st.res (i := 0) rfl).1 hSN hm1
  simp only [Option.some.injEq, Addr.mk.injEq, and_true] at hb2
  subst hb2
  refine vk_do rfl rfl (e_stT st 0 (ψ := fun w => ExRQ w (some ⟨b, 0, none⟩) cap ((mixL (trE e.g e.h) es j).set j (eNA e x)) S) rfl rfl rfl rfl sizeOf3 rfl r2.mem (hSM _ r2.mem) ⟨_, k2 5 _ rfl⟩ (r2.fz _) (hs12 ▸ s2 (e.h x.a)) loc_ex ?_)
  intro w st; dsimp only [setNth] at st
  refine vk_late ?_
  refine vk_end ?_
  refine vq_then (vk7 0 1 2 3 5 7 8 ?_)
  refine vk_draw Tryz.mixed [(1, true), (2, true), (3, true), (4, true), (0, true), (5, false), (6, false)] 6 (fun w => St _ _ [.tree S (fun w => ExRQ w (some ⟨b, 0, none⟩) cap ((mixL (trE e.g e.h) es j).set j (eNA e x)) S), .tree e.E e.in3] w) (by exact st) (by kernel_rfl) (by repeat (first | exact okQ_body | refine okQ_then ?_ | refine okQ_block ?_)) rfl (by kernel_rfl) rfl ?_
  intro w cd; replace st := st.call0 cd; clear cd
  have hS : St _ _ [.tree S (fun w => ExRQ w (some ⟨b, 0, none⟩) cap ((mixL (trE e.g e.h) es j).set j (eNA e x)) S), .tree e.E e.in3] w := (by exact st)
  iterate 2 refine vk_takeU rfl rfl rfl rfl (fun _ => hS) (fun w => y_mv rfl) ?_
  refine vk_takeU rfl rfl rfl rfl (fun _ => hS) (fun w => (by exact y_ia0 (k := j) rfl rfl underlying40 sizeOf42 rfl (by omega))) ?_
  refine vk_takeU rfl rfl rfl rfl (fun _ => hS) (fun w => (by exact y_fa (k := 4) rfl underlying42 rfl rfl sizeOf40 rfl)) ?_
  refine vk_take rfl rfl rfl rfl hS (fun w st => y_ldc rfl isAgg102 (cell_nth (st.res (i := 1) rfl).1.2 rfl)) ?_
  obtain ⟨b3, o3, c3, S3, hb3, r3, k3, q3, n3, sub3, -, -, put3⟩ := exR_focus (st.res (i := 0) rfl).1 hSN hm2
  simp only [Option.some.injEq, Addr.mk.injEq, and_true] at hb3
  subst hb3
  rw [eNA_kids] at q3
  refine vk_do rfl rfl (e_run rfl rfl ((by exact y_ldc rfl isAgg40 (k3 4 (.slice o3 x.kids.length c3) (by rw [eNA_kids]; rfl)))) ?_)
  refine vk_next (by exact st) ?_; intro hS
  refine vk_do rfl rfl (e_callv [_] rfl rfl rfl call119 rfl (ih _ hz2 x.kids rfl hkx.kids o3 c3 S3 _ q3 n3 (st.res (i := 1) rfl).1 (st.res (i := 1) rfl).2.1 (fun k hk => hd k (sub3 k hk))) ?_)
  rintro _ w ⟨rfl, hq, hc⟩
  replace st := st.within (ψ := fun w => ExRQ w (some ⟨b, 0, none⟩) cap (mixL (trE e.g e.h) es (j + 1)) S) hc sub3 hSM (hs23 ▸ put3 w (trEs e.g e.h x.kids) (by rw [trEs_len, eNA_kids]) hq hc) loc_ex
  refine vk_late ?_
  refine vk_end ?_
  refine vq_block (vq_then (vk6 0 1 2 3 7 8 (vc_region ?_)))
  refine vy (y_add rfl rfl (by omega : _ = ((j + 1 : Nat) : Int)) (by omega) (by omega)) ?_
  refine ym ?_
  refine vc_end ?_
  refine vq_again (j + 1)  ⟨rfl, rfl, rfl, rfl, rfl, rfl, trivial⟩ st ?_ ?_
  ·omega
  ·omega
 ·intro hc9
  try simp only [dn] at hc9
  refine vc_exit (vq_then_exit (vq_then_exit (vq_block_exit ?_)))
  refine vq_ret0 (.inr rfl) results119 ?_
  refine ⟨_, rfl, ?_⟩
  obtain rfl : j = es.length := by omega
  rw [mixL_all, ← trEs_map] at st
  exact ⟨rfl, (st.res (i := 0) rfl).1, st.chg⟩

end Go.Proofs.YtnmhlpnapgojjaaGreatDoor

