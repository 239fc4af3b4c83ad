/- A part of the proof: contracts of functions and plain laws; each theorem says its own conditions. -/
import Derived.Test.YtnmhlpnapgojjaaDoorPW
import Derived.Test.YtnmhlpnapgojjaaDoorK11
import Derived.Test.YtnmhlpnapgojjaaDoorK8
import Derived.Test.YtnmhlpnapgojjaaDoorK9
import Derived.Test.YtnmhlpnapgojjaaDoorK0
namespace Go.Proofs.YtnmhlpnapgojjaaDoor
open Go.RowKit Sx LexS
set_option linter.unusedVariables false
set_option linter.unusedSimpArgs false
section
variable {S : Nat → Prop}
theorem zipA_lenT {α β : Type} {f : α → β → Bool} {a : List α} {b : List β} (h : zipA f a b = true) : a.length = b.length := by
  by_cases h1 : a.length = b.length
  · exact h1
  · rw [zipA_len h1] at h; cases h
theorem sameP_len {p q : Pg} (h : sameP p q = true) : p.threads.length = q.threads.length := by
  unfold sameP at h
  simp only [Bool.and_eq_true] at h
  exact zipA_lenT h.2

set_option maxHeartbeats 2000000 in
theorem rsamePg_any (p q : Pg) (hok : OkP p) (os ol ot os' ol' ot' : Option Addr) (cs cl ct cs' cl' ct' : Nat) (w : World) (hSh : DcRow w S os p.shared) (hL : DcRow w S ol p.locks) (hT : ThRow w S ot p.threads) (hSh' : DcRow w S os' q.shared) (hL' : DcRow w S ol' q.locks) (hT' : ThRow w S ot' q.threads) :
    Ret Tryd.prog 13 [.agg (pgL p os ol ot cs cl ct).toArray, .agg (pgL q os' ol' ot' cs' cl' ct').toArray] w fun v w' => v = .bool (sameP p q) ∧ Chg [] w w' := by
  refine ret_of [_, _] Tryd.func13 rfl Tryd.ntmps13 rfl ?_
  have st := St.init w []
  obtain ⟨w0, rfl⟩ : ∃ w0, w0 = w := ⟨_, rfl⟩
  have hn1 := hok.1.1
  have hn2 := hok.2.1.1
  have hn3 := hok.2.2.1
  refine vc_seq ?_
  refine vc_region ?_
  refine vc_e (e_bx (l := [_, _, _]) st rfl rfl rfl rfl ?_)
  intro b2 w hb2 st
  refine vc_e (e_bx (l := [_, _, _]) st rfl rfl rfl rfl ?_)
  intro b3 w hb3 st
  refine vc_y rfl rfl (y_as rfl) ?_
  refine vc_end ?_
  refine vq_then ?_
  refine vc_keep [(2, _), (3, _)] ⟨rfl, rfl, trivial⟩ ?_
  refine vc_seq ?_
  refine vc_seq ?_
  refine vc_region ?_
  refine vc_y rfl rfl (y_fa0 rfl Tryd.underlying25 rfl rfl Tryd.sizeOf22 rfl) ?_
  refine vc_y rfl rfl ((by exact y_ld st 1 rfl Tryd.isAgg22 rfl rfl)) ?_
  refine vc_y rfl rfl (y_fa0 rfl Tryd.underlying25 rfl rfl Tryd.sizeOf22 rfl) ?_
  refine vc_y rfl rfl ((by exact y_ld st 0 rfl Tryd.isAgg22 rfl rfl)) ?_
  refine vc_e (e_call [_, _] rfl rfl Tryd.call34 rfl (rdeclsS_any p.shared q.shared _ _ _ _ _ (RowC.kept hSh (Same.of_nil st.chg)) (RowC.kept hSh' (Same.of_nil st.chg)) (by omega)) ?_)
  rintro _ w ⟨rfl, cw⟩
  replace st := st.call0 cw
  refine vc_y rfl rfl (y_not rfl) ?_
  refine vc_e (e_mvb rfl rfl rfl ?_ ?_)
  · intro hg14
    try simp only [dn] at hg14
    refine vc_e (e_skip rfl rfl ?_)
    refine vc_e (e_skip rfl rfl ?_)
    refine vc_e (e_skip rfl rfl ?_)
    refine vc_e (e_skip rfl rfl ?_)
    refine vc_e (e_skip rfl rfl ?_)
    refine vc_e (e_skip rfl rfl ?_)
    refine vc_y rfl rfl (y_pickt rfl rfl) ?_
    refine vc_y rfl rfl (y_mv rfl) ?_
    refine vc_e (e_skip rfl rfl ?_)
    refine vc_e (e_skip rfl rfl ?_)
    refine vc_e (e_skip rfl rfl ?_)
    refine vc_e (e_skip rfl rfl ?_)
    refine vc_e (e_skip rfl rfl ?_)
    refine vc_e (e_skip rfl rfl ?_)
    refine vc_e (e_skip rfl rfl ?_)
    refine vc_y rfl rfl (y_pickt rfl rfl) ?_
    refine vc_end ?_
    refine vq_then ?_
    refine vc_keep [(2, _), (3, _), (30, _)] ⟨rfl, rfl, rfl, trivial⟩ ?_
    refine vc_ift rfl ?_
    refine vc_seq ?_
    refine vc_region ?_
    refine vc_y rfl rfl (y_as rfl) ?_
    refine vc_end ?_
    refine vq_then ?_
    refine vc_keep [(4, _)] ⟨rfl, trivial⟩ ?_
    refine vc_ret ?_
    refine vq_then_ret ?_
    refine vq_ret1 st (.inl rfl) Tryd.results13 (.tmp rfl) ?_
    refine ⟨_, rfl, ?_⟩
    refine ⟨?_, st.chg⟩
    clear st
    unfold sameP
    first
      | (rw [‹zipA sameD p.shared q.shared = false›]; simp; done)
      | (rw [‹zipA sameD p.locks q.locks = false›]; simp; done)
      | (rw [zipA_len (f := sameT) (by omega)]; simp; done)
      | (rw [zipA_no (f := sameT) hx hy (by unfold sameT; simp_all)]; simp; done)
      | (rw [‹zipA sameD p.shared q.shared = true›, ‹zipA sameD p.locks q.locks = true›, zipA_yes (by omega) fun i x y hi h1 h2 => hall i x y (by omega) h1 h2]; rfl)
  · intro hg14
    try simp only [dn] at hg14
    refine vc_y rfl rfl ((by exact y_faz (k := 1) rfl Tryd.underlying25 rfl rfl Tryd.sizeOf22 rfl)) ?_
    refine vc_y rfl rfl ((by exact y_ld st 1 rfl Tryd.isAgg22 rfl rfl)) ?_
    refine vc_y rfl rfl ((by exact y_faz (k := 1) rfl Tryd.underlying25 rfl rfl Tryd.sizeOf22 rfl)) ?_
    refine vc_y rfl rfl ((by exact y_ld st 0 rfl Tryd.isAgg22 rfl rfl)) ?_
    refine vc_e (e_call [_, _] rfl rfl Tryd.call34 rfl (rdeclsS_any p.locks q.locks _ _ _ _ _ (RowC.kept hL (Same.of_nil st.chg)) (RowC.kept hL' (Same.of_nil st.chg)) (by omega)) ?_)
    rintro _ w ⟨rfl, cw⟩
    replace st := st.call0 cw
    refine vc_y rfl rfl (y_not rfl) ?_
    refine vc_y rfl rfl (y_pickf rfl rfl) ?_
    refine vc_e (e_mvb rfl rfl rfl ?_ ?_)
    · intro hg22
      try simp only [dn] at hg22
      refine vc_e (e_skip rfl rfl ?_)
      refine vc_e (e_skip rfl rfl ?_)
      refine vc_e (e_skip rfl rfl ?_)
      refine vc_e (e_skip rfl rfl ?_)
      refine vc_e (e_skip rfl rfl ?_)
      refine vc_e (e_skip rfl rfl ?_)
      refine vc_e (e_skip rfl rfl ?_)
      refine vc_y rfl rfl (y_pickt rfl rfl) ?_
      refine vc_end ?_
      refine vq_then ?_
      refine vc_keep [(2, _), (3, _), (30, _)] ⟨rfl, rfl, rfl, trivial⟩ ?_
      refine vc_ift rfl ?_
      refine vc_seq ?_
      refine vc_region ?_
      refine vc_y rfl rfl (y_as rfl) ?_
      refine vc_end ?_
      refine vq_then ?_
      refine vc_keep [(4, _)] ⟨rfl, trivial⟩ ?_
      refine vc_ret ?_
      refine vq_then_ret ?_
      refine vq_ret1 st (.inl rfl) Tryd.results13 (.tmp rfl) ?_
      refine ⟨_, rfl, ?_⟩
      refine ⟨?_, st.chg⟩
      clear st
      unfold sameP
      first
        | (rw [‹zipA sameD p.shared q.shared = false›]; simp; done)
        | (rw [‹zipA sameD p.locks q.locks = false›]; simp; done)
        | (rw [zipA_len (f := sameT) (by omega)]; simp; done)
        | (rw [zipA_no (f := sameT) hx hy (by unfold sameT; simp_all)]; simp; done)
        | (rw [‹zipA sameD p.shared q.shared = true›, ‹zipA sameD p.locks q.locks = true›, zipA_yes (by omega) fun i x y hi h1 h2 => hall i x y (by omega) h1 h2]; rfl)
    · intro hg22
      try simp only [dn] at hg22
      refine vc_y rfl rfl ((by exact y_faz (k := 2) rfl Tryd.underlying25 rfl rfl Tryd.sizeOf23 rfl)) ?_
      refine vc_y rfl rfl ((by exact y_ld st 1 rfl Tryd.isAgg23 rfl rfl)) ?_
      refine vc_y rfl rfl (y_lensl rfl Tryd.underlying23) ?_
      refine vc_y rfl rfl ((by exact y_faz (k := 2) rfl Tryd.underlying25 rfl rfl Tryd.sizeOf23 rfl)) ?_
      refine vc_y rfl rfl ((by exact y_ld st 0 rfl Tryd.isAgg23 rfl rfl)) ?_
      refine vc_y rfl rfl (y_lensl rfl Tryd.underlying23) ?_
      refine vc_y rfl rfl (y_nei rfl rfl) ?_
      refine vc_y rfl rfl (y_pickf rfl rfl) ?_
      refine vc_end ?_
      refine vq_then ?_
      refine vc_keep [(2, _), (3, _), (30, _)] ⟨rfl, rfl, rfl, trivial⟩ ?_
      refine vc_ifs rfl ?_ ?_
      · intro hc30
        try simp only [dn] at hc30
        refine vc_seq ?_
        refine vc_region ?_
        refine vc_y rfl rfl (y_as rfl) ?_
        refine vc_end ?_
        refine vq_then ?_
        refine vc_keep [(4, _)] ⟨rfl, trivial⟩ ?_
        refine vc_ret ?_
        refine vq_then_ret ?_
        refine vq_ret1 st (.inl rfl) Tryd.results13 (.tmp rfl) ?_
        refine ⟨_, rfl, ?_⟩
        refine ⟨?_, st.chg⟩
        clear st
        unfold sameP
        first
          | (rw [‹zipA sameD p.shared q.shared = false›]; simp; done)
          | (rw [‹zipA sameD p.locks q.locks = false›]; simp; done)
          | (rw [zipA_len (f := sameT) (by omega)]; simp; done)
          | (rw [zipA_no (f := sameT) hx hy (by unfold sameT; simp_all)]; simp; done)
          | (rw [‹zipA sameD p.shared q.shared = true›, ‹zipA sameD p.locks q.locks = true›, zipA_yes (by omega) fun i x y hi h1 h2 => hall i x y (by omega) h1 h2]; rfl)
      · intro hc30
        try simp only [dn] at hc30
        have hlen : p.threads.length = q.threads.length := by omega
        refine vc_code_skip ?_
        refine vq_then ?_
        refine vc_keep [(2, _), (3, _)] ⟨rfl, rfl, trivial⟩ ?_
        refine vc_seq ?_
        refine vc_seq ?_
        refine vc_region ?_
        refine vc_y rfl rfl ((by exact y_faz (k := 2) rfl Tryd.underlying25 rfl rfl Tryd.sizeOf23 rfl)) ?_
        refine vc_y rfl rfl ((by exact y_ld st 1 rfl Tryd.isAgg23 rfl rfl)) ?_
        refine vc_y rfl rfl (y_lensl rfl Tryd.underlying23) ?_
        refine vc_y rfl rfl (y_mv rfl) ?_
        refine vc_end ?_
        refine vq_then ?_
        refine vc_keep [(2, _), (3, _), (33, _), (34, _)] ⟨rfl, rfl, rfl, rfl, trivial⟩ ?_
        refine vc_block ?_
        refine vc_loop (w0 := w0) (M := []) (fun (j : Nat) => [(2, .pointer (some ⟨b2, 0, none⟩)), (3, .pointer (some ⟨b3, 0, none⟩)), (33, .int .i64 (p.threads.length : Int)), (34, .int .i64 (j : Int))]) (fun _ => [.blk b2 (.cells (pgL p os ol ot cs cl ct).toArray 25 (0, 0)), .blk b3 (.cells (pgL q os' ol' ot' cs' cl' ct').toArray 25 (0, 0))]) (fun j _ => j ≤ p.threads.length ∧ ∀ (i : Nat) x y, i < j → p.threads[i]? = some x → q.threads[i]? = some y → sameT x y = true) (fun j => p.threads.length - j) 0 ⟨rfl, rfl, rfl, rfl, trivial⟩ (st.pick [1, 0] rfl (by decide)) ⟨by omega, fun i x y h => by omega⟩ ?_
        clear st
        rintro j w ⟨hj, hall⟩ st
        refine vc_seq ?_
        refine vc_region ?_
        refine vc_y rfl rfl (y_lss rfl rfl) ?_
        refine vc_end ?_
        refine vq_then ?_
        refine vc_keep [(2, _), (3, _), (33, _), (34, _), (35, _)] ⟨rfl, rfl, rfl, rfl, rfl, trivial⟩ ?_
        refine vc_seq ?_
        refine vc_ifs rfl ?_ ?_
        · intro hc35
          try simp only [dn] at hc35
          have stK := st
          obtain ⟨x, hx⟩ : ∃ x, p.threads[j]? = some x := ⟨_, List.getElem?_eq_getElem (by omega)⟩
          obtain ⟨y, hy⟩ : ∃ y, q.threads[j]? = some y := ⟨_, List.getElem?_eq_getElem (by omega)⟩
          obtain ⟨gb, go, rfl, hgS, hgl, hg⟩ := ThRow.at hT (by omega)
          obtain ⟨fb, fo, rfl, hfS, hfl, hf⟩ := ThRow.at hT' (by omega)
          obtain ⟨tl, tb, cll, cbb, htl, htb, hc⟩ := hg j x hx
          obtain ⟨ul, ub, dll, dbb, hul, hub, hd⟩ := hf j y hy
          have hkx := hok.2.2.2 j x hx
          have st := stK
          clear stK
          refine vc_code_skip ?_
          refine vq_then ?_
          refine vc_keep [(2, _), (3, _), (33, _), (34, _)] ⟨rfl, rfl, rfl, rfl, trivial⟩ ?_
          refine vc_seq ?_
          refine vc_block ?_
          refine vc_seq ?_
          refine vc_region ?_
          refine vc_y rfl rfl (y_mv rfl) ?_
          refine vc_y rfl rfl (y_as rfl) ?_
          refine vc_end ?_
          refine vq_then ?_
          refine vc_keep [(2, _), (3, _), (5, _), (33, _), (34, _)] ⟨rfl, rfl, rfl, rfl, rfl, trivial⟩ ?_
          refine vc_cut (w0 := w0) (M := []) (fun (z : Nat × Nat) => [(2, .pointer (some ⟨b2, 0, none⟩)), (3, .pointer (some ⟨b3, 0, none⟩)), (6, .pointer (some ⟨z.1, 0, none⟩)), (7, .pointer (some ⟨z.2, 0, none⟩)), (33, .int .i64 (p.threads.length : Int)), (34, .int .i64 (j : Int))]) (fun z => [.blk b2 (.cells (pgL p os ol (some ⟨gb, go, none⟩) cs cl ct).toArray 25 (0, 0)), .blk b3 (.cells (pgL q os' ol' (some ⟨fb, fo, none⟩) cs' cl' ct').toArray 25 (0, 0)), .blk z.1 (.cells (thL x tl tb cll cbb).toArray 42 (0, 0)), .blk z.2 (.cells (thL y ul ub dll dbb).toArray 42 (0, 0))]) (fun _ _ => True) ?_ ?_
          ·
            refine vd_draw Tryd.mixed (.take 0 (.take 1 (.take 2 (.take 3 (.take 4 (.take 5 (.take 6 (.take 7 (.take 8 (.take 9 (.two 10 11 (.one 11 (.one 12 (.one 13 .done))) (.one 10 (.one 12 (.one 13 .done)))))))))))))) (fun w => St _ _ _ w) st (by kernel_rfl) (by repeat (first | exact okQ_body | refine okQ_then ?_ | refine okQ_block ?_)) rfl (by kernel_rfl) ?_
            intro w cd; replace st := st.call0 cd; clear cd
            have hS := st
            refine vd_take rfl rfl rfl hS (fun w st => (by exact y_faz (k := 2) rfl Tryd.underlying25 rfl rfl Tryd.sizeOf23 rfl)) ?_
            refine vd_take rfl rfl rfl hS (fun w st => (by exact y_ld st 0 rfl Tryd.isAgg23 rfl rfl)) ?_
            refine vd_take rfl rfl rfl hS (fun w st => y_mv rfl) ?_
            refine vd_take rfl rfl rfl hS (fun w st => (by exact y_ia (k := j) rfl rfl Tryd.underlying23 Tryd.sizeOf42 rfl (by omega))) ?_
            refine vd_take rfl rfl rfl hS (fun w st => (by exact y_ldca (thL x tl tb cll cbb) rfl Tryd.isAgg42 Tryd.sizeOf42 rfl (fun i v hi => st.chg.cell (hc i v hi) (by simp)))) ?_
            refine vd_take rfl rfl rfl hS (fun w st => (by exact y_faz (k := 2) rfl Tryd.underlying25 rfl rfl Tryd.sizeOf23 rfl)) ?_
            refine vd_take rfl rfl rfl hS (fun w st => (by exact y_ld st 1 rfl Tryd.isAgg23 rfl rfl)) ?_
            refine vd_take rfl rfl rfl hS (fun w st => y_mv rfl) ?_
            refine vd_take rfl rfl rfl hS (fun w st => (by exact y_ia (k := j) rfl rfl Tryd.underlying23 Tryd.sizeOf42 rfl (by omega))) ?_
            refine vd_take rfl rfl rfl hS (fun w st => (by exact y_ldca (thL y ul ub dll dbb) rfl Tryd.isAgg42 Tryd.sizeOf42 rfl (fun i v hi => st.chg.cell (hd i v hi) (by simp)))) ?_
            refine vd_two rfl rfl ?_ ?_
            ·
              refine (e_al (l := [_, _, _, _]) st rfl rfl Tryd.zeroValue42 rfl ?_)
              intro b6 w hb6 st
              refine vd_next (by exact st.drop (by repeat (first | exact sl0 | apply sl1 | apply sl2))) ?_; intro hS
              refine vd_do rfl (e_al (l := [_, _, _, _]) st rfl rfl Tryd.zeroValue42 rfl ?_)
              intro b7 w hb7 st
              refine vd_next (by exact st.drop (by repeat (first | exact sl0 | apply sl1 | apply sl2))) ?_; intro hS
              refine vd_do rfl (e_sts (vs := [_, _, _, _]) st 1 rfl rfl rfl rfl rfl Tryd.sizeOf42 rfl rfl (by first | (right; assumption) | (left; simp)) ?_)
              intro w st; dsimp only [setNth, wr] at st
              refine vd_next (by exact st.drop (by repeat (first | exact sl0 | apply sl1 | apply sl2))) ?_; intro hS
              refine vd_do rfl (e_sts (vs := [_, _, _, _]) st 0 rfl rfl rfl rfl rfl Tryd.sizeOf42 rfl rfl (by first | (right; assumption) | (left; simp)) ?_)
              intro w st; dsimp only [setNth, wr] at st
              refine vd_next (by exact st.drop (by repeat (first | exact sl0 | apply sl1 | apply sl2))) ?_; intro hS
              refine vd_end ?_
              refine vq_meet (b6, b7) ⟨rfl, rfl, rfl, rfl, rfl, rfl, trivial⟩ (st.pick [2, 3, 1, 0] rfl (by decide)) ?_
              · trivial
            ·
              refine (e_al (l := [_, _, _, _]) st rfl rfl Tryd.zeroValue42 rfl ?_)
              intro b7 w hb7 st
              refine vd_next (by exact st.drop (by repeat (first | exact sl0 | apply sl1 | apply sl2))) ?_; intro hS
              refine vd_do rfl (e_al (l := [_, _, _, _]) st rfl rfl Tryd.zeroValue42 rfl ?_)
              intro b6 w hb6 st
              refine vd_next (by exact st.drop (by repeat (first | exact sl0 | apply sl1 | apply sl2))) ?_; intro hS
              refine vd_do rfl (e_sts (vs := [_, _, _, _]) st 0 rfl rfl rfl rfl rfl Tryd.sizeOf42 rfl rfl (by first | (right; assumption) | (left; simp)) ?_)
              intro w st; dsimp only [setNth, wr] at st
              refine vd_next (by exact st.drop (by repeat (first | exact sl0 | apply sl1 | apply sl2))) ?_; intro hS
              refine vd_do rfl (e_sts (vs := [_, _, _, _]) st 1 rfl rfl rfl rfl rfl Tryd.sizeOf42 rfl rfl (by first | (right; assumption) | (left; simp)) ?_)
              intro w st; dsimp only [setNth, wr] at st
              refine vd_next (by exact st.drop (by repeat (first | exact sl0 | apply sl1 | apply sl2))) ?_; intro hS
              refine vd_end ?_
              refine vq_meet (b6, b7) ⟨rfl, rfl, rfl, rfl, rfl, rfl, trivial⟩ (st.pick [2, 3, 0, 1] rfl (by decide)) ?_
              · trivial
          ·
            clear st
            rintro ⟨b6, b7⟩ w - st
            dsimp only at *
            refine vc_seq ?_
            refine vc_region ?_
            refine vc_y rfl rfl (y_fa0 rfl Tryd.underlying42 rfl rfl Tryd.sizeOf9 rfl) ?_
            refine vc_y rfl rfl ((by exact y_ld st 2 rfl Tryd.isAgg9 rfl rfl)) ?_
            refine vc_y rfl rfl (y_fa0 rfl Tryd.underlying42 rfl rfl Tryd.sizeOf9 rfl) ?_
            refine vc_y rfl rfl ((by exact y_ld st 3 rfl Tryd.isAgg9 rfl rfl)) ?_
            refine vc_y rfl rfl (y_nes rfl rfl) ?_
            refine vc_e (e_mvb rfl rfl rfl ?_ ?_)
            · intro hg52
              try simp only [dn] at hg52
              refine vc_e (e_skip rfl rfl ?_)
              refine vc_e (e_skip rfl rfl ?_)
              refine vc_e (e_skip rfl rfl ?_)
              refine vc_e (e_skip rfl rfl ?_)
              refine vc_e (e_skip rfl rfl ?_)
              refine vc_e (e_skip rfl rfl ?_)
              refine vc_y rfl rfl (y_pickt rfl rfl) ?_
              refine vc_y rfl rfl (y_mv rfl) ?_
              refine vc_e (e_skip rfl rfl ?_)
              refine vc_e (e_skip rfl rfl ?_)
              refine vc_e (e_skip rfl rfl ?_)
              refine vc_e (e_skip rfl rfl ?_)
              refine vc_e (e_skip rfl rfl ?_)
              refine vc_e (e_skip rfl rfl ?_)
              refine vc_y rfl rfl (y_pickt rfl rfl) ?_
              refine vc_end ?_
              refine vq_then ?_
              refine vc_keep [(2, _), (3, _), (33, _), (34, _), (67, _)] ⟨rfl, rfl, rfl, rfl, rfl, trivial⟩ ?_
              refine vc_ift rfl ?_
              refine vc_seq ?_
              refine vc_region ?_
              refine vc_y rfl rfl (y_as rfl) ?_
              refine vc_end ?_
              refine vq_then ?_
              refine vc_keep [(4, _)] ⟨rfl, trivial⟩ ?_
              refine vc_ret ?_
              refine vq_block_ret ?_
              refine vq_then_ret ?_
              refine vq_then_ret ?_
              refine vq_block_ret ?_
              refine vq_then_ret ?_
              refine vq_ret1 st (.inl rfl) Tryd.results13 (.tmp rfl) ?_
              refine ⟨_, rfl, ?_⟩
              refine ⟨?_, st.chg⟩
              clear st
              unfold sameP
              first
                | (rw [‹zipA sameD p.shared q.shared = false›]; simp; done)
                | (rw [‹zipA sameD p.locks q.locks = false›]; simp; done)
                | (rw [zipA_len (f := sameT) (by omega)]; simp; done)
                | (rw [zipA_no (f := sameT) hx hy (by unfold sameT; simp_all)]; simp; done)
                | (rw [‹zipA sameD p.shared q.shared = true›, ‹zipA sameD p.locks q.locks = true›, zipA_yes (by omega) fun i x y hi h1 h2 => hall i x y (by omega) h1 h2]; rfl)
            · intro hg52
              try simp only [dn] at hg52
              refine vc_y rfl rfl ((by exact y_faz (k := 1) rfl Tryd.underlying42 rfl rfl Tryd.sizeOf22 rfl)) ?_
              refine vc_y rfl rfl ((by exact y_ld st 2 rfl Tryd.isAgg22 rfl rfl)) ?_
              refine vc_y rfl rfl ((by exact y_faz (k := 1) rfl Tryd.underlying42 rfl rfl Tryd.sizeOf22 rfl)) ?_
              refine vc_y rfl rfl ((by exact y_ld st 3 rfl Tryd.isAgg22 rfl rfl)) ?_
              refine vc_e (e_call [_, _] rfl rfl Tryd.call34 rfl (rdeclsS_any x.locals y.locals _ _ _ _ _ (RowC.kept htl (Same.of_nil st.chg)) (RowC.kept hul (Same.of_nil st.chg)) (by have := hkx.1.1; omega)) ?_)
              rintro _ w ⟨rfl, cw⟩
              replace st := st.call0 cw
              refine vc_y rfl rfl (y_not rfl) ?_
              refine vc_y rfl rfl (y_pickf rfl rfl) ?_
              refine vc_e (e_mvb rfl rfl rfl ?_ ?_)
              · intro hg60
                try simp only [dn] at hg60
                refine vc_e (e_skip rfl rfl ?_)
                refine vc_e (e_skip rfl rfl ?_)
                refine vc_e (e_skip rfl rfl ?_)
                refine vc_e (e_skip rfl rfl ?_)
                refine vc_e (e_skip rfl rfl ?_)
                refine vc_e (e_skip rfl rfl ?_)
                refine vc_y rfl rfl (y_pickt rfl rfl) ?_
                refine vc_end ?_
                refine vq_then ?_
                refine vc_keep [(2, _), (3, _), (33, _), (34, _), (67, _)] ⟨rfl, rfl, rfl, rfl, rfl, trivial⟩ ?_
                refine vc_ift rfl ?_
                refine vc_seq ?_
                refine vc_region ?_
                refine vc_y rfl rfl (y_as rfl) ?_
                refine vc_end ?_
                refine vq_then ?_
                refine vc_keep [(4, _)] ⟨rfl, trivial⟩ ?_
                refine vc_ret ?_
                refine vq_block_ret ?_
                refine vq_then_ret ?_
                refine vq_then_ret ?_
                refine vq_block_ret ?_
                refine vq_then_ret ?_
                refine vq_ret1 st (.inl rfl) Tryd.results13 (.tmp rfl) ?_
                refine ⟨_, rfl, ?_⟩
                refine ⟨?_, st.chg⟩
                clear st
                unfold sameP
                first
                  | (rw [‹zipA sameD p.shared q.shared = false›]; simp; done)
                  | (rw [‹zipA sameD p.locks q.locks = false›]; simp; done)
                  | (rw [zipA_len (f := sameT) (by omega)]; simp; done)
                  | (rw [zipA_no (f := sameT) hx hy (by unfold sameT; simp_all)]; simp; done)
                  | (rw [‹zipA sameD p.shared q.shared = true›, ‹zipA sameD p.locks q.locks = true›, zipA_yes (by omega) fun i x y hi h1 h2 => hall i x y (by omega) h1 h2]; rfl)
              · intro hg60
                try simp only [dn] at hg60
                refine vc_y rfl rfl ((by exact y_faz (k := 2) rfl Tryd.underlying42 rfl rfl Tryd.sizeOf40 rfl)) ?_
                refine vc_y rfl rfl ((by exact y_ld st 2 rfl Tryd.isAgg40 rfl rfl)) ?_
                refine vc_y rfl rfl ((by exact y_faz (k := 2) rfl Tryd.underlying42 rfl rfl Tryd.sizeOf40 rfl)) ?_
                refine vc_y rfl rfl ((by exact y_ld st 3 rfl Tryd.isAgg40 rfl rfl)) ?_
                refine vc_e (e_call [_, _] rfl rfl Tryd.call35 rfl (rstmtsS_any _ x.body rfl hkx.2.1 y.body _ _ _ _ _ (htb.kept (Same.of_nil st.chg)) (hub.kept (Same.of_nil st.chg))) ?_)
                rintro _ w ⟨rfl, cw⟩
                replace st := st.call0 cw
                refine vc_y rfl rfl (y_not rfl) ?_
                refine vc_y rfl rfl (y_pickf rfl rfl) ?_
                refine vc_end ?_
                refine vq_then ?_
                refine vc_keep [(2, _), (3, _), (33, _), (34, _), (67, _)] ⟨rfl, rfl, rfl, rfl, rfl, trivial⟩ ?_
                refine vc_ifs rfl ?_ ?_
                · intro hc67
                  try simp only [dn] at hc67
                  refine vc_seq ?_
                  refine vc_region ?_
                  refine vc_y rfl rfl (y_as rfl) ?_
                  refine vc_end ?_
                  refine vq_then ?_
                  refine vc_keep [(4, _)] ⟨rfl, trivial⟩ ?_
                  refine vc_ret ?_
                  refine vq_block_ret ?_
                  refine vq_then_ret ?_
                  refine vq_then_ret ?_
                  refine vq_block_ret ?_
                  refine vq_then_ret ?_
                  refine vq_ret1 st (.inl rfl) Tryd.results13 (.tmp rfl) ?_
                  refine ⟨_, rfl, ?_⟩
                  refine ⟨?_, st.chg⟩
                  clear st
                  unfold sameP
                  first
                    | (rw [‹zipA sameD p.shared q.shared = false›]; simp; done)
                    | (rw [‹zipA sameD p.locks q.locks = false›]; simp; done)
                    | (rw [zipA_len (f := sameT) (by omega)]; simp; done)
                    | (rw [zipA_no (f := sameT) hx hy (by unfold sameT; simp_all)]; simp; done)
                    | (rw [‹zipA sameD p.shared q.shared = true›, ‹zipA sameD p.locks q.locks = true›, zipA_yes (by omega) fun i x y hi h1 h2 => hall i x y (by omega) h1 h2]; rfl)
                · intro hc67
                  try simp only [dn] at hc67
                  refine vc_code_skip ?_
                  refine vq_block ?_
                  refine vq_then ?_
                  refine vc_keep [(2, _), (3, _), (33, _), (34, _)] ⟨rfl, rfl, rfl, rfl, trivial⟩ ?_
                  refine vc_region ?_
                  refine vc_y rfl rfl (y_add rfl rfl (by omega : _ = ((j + 1 : Nat) : Int)) (by omega) (by omega)) ?_
                  refine vc_y rfl rfl (y_mv rfl) ?_
                  refine vc_end ?_
                  refine vq_again (j + 1)  ⟨rfl, rfl, rfl, rfl, trivial⟩ (st.pick [0, 1] rfl (by decide)) ?_ ?_
                  · exact ⟨by omega, fun i x' y' hi h1 h2 => by
                      rcases (by omega : i < j ∨ i = j) with h | rfl
                      · exact hall i x' y' h h1 h2
                      · rw [hx] at h1; rw [hy] at h2; cases h1; cases h2; (unfold sameT; clear st; simp_all)⟩
                  · omega
        · intro hc35
          try simp only [dn] at hc35
          refine vc_exit ?_
          refine vq_then_exit ?_
          refine vq_then_exit ?_
          refine vq_block_exit ?_
          refine vq_then ?_
          refine vc_keep [] trivial ?_
          refine vc_seq ?_
          refine vc_region ?_
          refine vc_y rfl rfl (y_as rfl) ?_
          refine vc_end ?_
          refine vq_then ?_
          refine vc_keep [(4, _)] ⟨rfl, trivial⟩ ?_
          refine vc_ret ?_
          refine vq_ret1 st (.inl rfl) Tryd.results13 (.tmp rfl) ?_
          refine ⟨_, rfl, ?_⟩
          refine ⟨?_, st.chg⟩
          clear st
          unfold sameP
          first
            | (rw [‹zipA sameD p.shared q.shared = false›]; simp; done)
            | (rw [‹zipA sameD p.locks q.locks = false›]; simp; done)
            | (rw [zipA_len (f := sameT) (by omega)]; simp; done)
            | (rw [zipA_no (f := sameT) hx hy (by unfold sameT; simp_all)]; simp; done)
            | (rw [‹zipA sameD p.shared q.shared = true›, ‹zipA sameD p.locks q.locks = true›, zipA_yes (by omega) fun i x y hi h1 h2 => hall i x y (by omega) h1 h2]; rfl)

set_option maxHeartbeats 2000000 in
theorem rexactly_any (p q : Pg) (hok : OkP p) (os ol ot os' ol' ot' : Option Addr) (cs cl ct cs' cl' ct' : Nat) (w : World) (hSh : DcRow w S os p.shared) (hL : DcRow w S ol p.locks) (hT : ThRow w S ot p.threads) (hSh' : DcRow w S os' q.shared) (hL' : DcRow w S ol' q.locks) (hT' : ThRow w S ot' q.threads) :
    Ret Tryd.prog 10 [.agg (pgL p os ol ot cs cl ct).toArray, .agg (pgL q os' ol' ot' cs' cl' ct').toArray] w fun v w' => v = .bool (exactP p q) ∧ Chg [] w w' := by
  refine ret_of [_, _] Tryd.func10 rfl Tryd.ntmps10 rfl ?_
  have st := St.init w []
  obtain ⟨w0, rfl⟩ : ∃ w0, w0 = w := ⟨_, rfl⟩
  have hn1 := hok.1.1
  have hn2 := hok.2.1.1
  have hn3 := hok.2.2.1
  refine vc_seq ?_
  refine vc_region ?_
  refine vc_e (e_bx (l := [_, _, _]) st rfl rfl rfl rfl ?_)
  intro b2 w hb2 st
  refine vc_e (e_bx (l := [_, _, _]) st rfl rfl rfl rfl ?_)
  intro b3 w hb3 st
  refine vc_y rfl rfl (y_as rfl) ?_
  refine vc_end ?_
  refine vq_then ?_
  refine vc_keep [(2, _), (3, _)] ⟨rfl, rfl, trivial⟩ ?_
  refine vc_seq ?_
  refine vc_seq ?_
  refine vc_region ?_
  refine vc_y rfl rfl ((by exact y_lda (vs := [_, _, _]) st 1 rfl Tryd.isAgg25 Tryd.sizeOf25 rfl rfl)) ?_
  refine vc_y rfl rfl ((by exact y_lda (vs := [_, _, _]) st 0 rfl Tryd.isAgg25 Tryd.sizeOf25 rfl rfl)) ?_
  refine vc_e (e_call [_, _] rfl rfl Tryd.call13 rfl (rsamePg_any p q hok _ _ _ _ _ _ _ _ _ _ _ _ _ (RowC.kept hSh (Same.of_nil st.chg)) (RowC.kept hL (Same.of_nil st.chg)) (hT.kept (Same.of_nil st.chg)) (RowC.kept hSh' (Same.of_nil st.chg)) (RowC.kept hL' (Same.of_nil st.chg)) (hT'.kept (Same.of_nil st.chg))) ?_)
  rintro _ w ⟨rfl, cw⟩
  replace st := st.call0 cw
  refine vc_y rfl rfl (y_not rfl) ?_
  refine vc_e (e_mvb rfl rfl rfl ?_ ?_)
  · intro hg12
    try simp only [dn] at hg12
    refine vc_e (e_skip rfl rfl ?_)
    refine vc_e (e_skip rfl rfl ?_)
    refine vc_e (e_skip rfl rfl ?_)
    refine vc_e (e_skip rfl rfl ?_)
    refine vc_e (e_skip rfl rfl ?_)
    refine vc_e (e_skip rfl rfl ?_)
    refine vc_y rfl rfl (y_pickt rfl rfl) ?_
    refine vc_y rfl rfl (y_mv rfl) ?_
    refine vc_e (e_skip rfl rfl ?_)
    refine vc_e (e_skip rfl rfl ?_)
    refine vc_e (e_skip rfl rfl ?_)
    refine vc_e (e_skip rfl rfl ?_)
    refine vc_e (e_skip rfl rfl ?_)
    refine vc_e (e_skip rfl rfl ?_)
    refine vc_y rfl rfl (y_pickt rfl rfl) ?_
    refine vc_end ?_
    refine vq_then ?_
    refine vc_keep [(2, _), (3, _), (27, _)] ⟨rfl, rfl, rfl, trivial⟩ ?_
    refine vc_ift rfl ?_
    refine vc_seq ?_
    refine vc_region ?_
    refine vc_y rfl rfl (y_as rfl) ?_
    refine vc_end ?_
    refine vq_then ?_
    refine vc_keep [(4, _)] ⟨rfl, trivial⟩ ?_
    refine vc_ret ?_
    refine vq_then_ret ?_
    refine vq_ret1 st (.inl rfl) Tryd.results10 (.tmp rfl) ?_
    refine ⟨_, rfl, ?_⟩
    refine ⟨?_, st.chg⟩
    clear st
    unfold exactP
    first
      | (rw [‹sameP p q = false›]; simp; done)
      | (rw [‹zipA eqD p.shared q.shared = false›]; simp; done)
      | (rw [‹zipA eqD p.locks q.locks = false›]; simp; done)
      | (rw [zipA_no (f := exT) hx hy (by unfold exT; simp_all)]; simp; done)
      | (rw [‹sameP p q = true›, ‹zipA eqD p.shared q.shared = true›, ‹zipA eqD p.locks q.locks = true›, zipA_yes hlen fun i x y hi h1 h2 => hall i x y (by omega) h1 h2]; rfl)
  · intro hg12
    try simp only [dn] at hg12
    refine vc_y rfl rfl (y_fa0 rfl Tryd.underlying25 rfl rfl Tryd.sizeOf22 rfl) ?_
    refine vc_y rfl rfl ((by exact y_ld st 1 rfl Tryd.isAgg22 rfl rfl)) ?_
    refine vc_y rfl rfl (y_fa0 rfl Tryd.underlying25 rfl rfl Tryd.sizeOf22 rfl) ?_
    refine vc_y rfl rfl ((by exact y_ld st 0 rfl Tryd.isAgg22 rfl rfl)) ?_
    refine vc_e (e_call [_, _] rfl rfl Tryd.call26 rfl (rdeclared_any p.shared q.shared _ _ _ _ _ (RowC.kept hSh (Same.of_nil st.chg)) (RowC.kept hSh' (Same.of_nil st.chg)) (by omega)) ?_)
    rintro _ w ⟨rfl, cw⟩
    replace st := st.call0 cw
    refine vc_y rfl rfl (y_not rfl) ?_
    refine vc_y rfl rfl (y_pickf rfl rfl) ?_
    refine vc_e (e_mvb rfl rfl rfl ?_ ?_)
    · intro hg20
      try simp only [dn] at hg20
      refine vc_e (e_skip rfl rfl ?_)
      refine vc_e (e_skip rfl rfl ?_)
      refine vc_e (e_skip rfl rfl ?_)
      refine vc_e (e_skip rfl rfl ?_)
      refine vc_e (e_skip rfl rfl ?_)
      refine vc_e (e_skip rfl rfl ?_)
      refine vc_y rfl rfl (y_pickt rfl rfl) ?_
      refine vc_end ?_
      refine vq_then ?_
      refine vc_keep [(2, _), (3, _), (27, _)] ⟨rfl, rfl, rfl, trivial⟩ ?_
      refine vc_ift rfl ?_
      refine vc_seq ?_
      refine vc_region ?_
      refine vc_y rfl rfl (y_as rfl) ?_
      refine vc_end ?_
      refine vq_then ?_
      refine vc_keep [(4, _)] ⟨rfl, trivial⟩ ?_
      refine vc_ret ?_
      refine vq_then_ret ?_
      refine vq_ret1 st (.inl rfl) Tryd.results10 (.tmp rfl) ?_
      refine ⟨_, rfl, ?_⟩
      refine ⟨?_, st.chg⟩
      clear st
      unfold exactP
      first
        | (rw [‹sameP p q = false›]; simp; done)
        | (rw [‹zipA eqD p.shared q.shared = false›]; simp; done)
        | (rw [‹zipA eqD p.locks q.locks = false›]; simp; done)
        | (rw [zipA_no (f := exT) hx hy (by unfold exT; simp_all)]; simp; done)
        | (rw [‹sameP p q = true›, ‹zipA eqD p.shared q.shared = true›, ‹zipA eqD p.locks q.locks = true›, zipA_yes hlen fun i x y hi h1 h2 => hall i x y (by omega) h1 h2]; rfl)
    · intro hg20
      try simp only [dn] at hg20
      refine vc_y rfl rfl ((by exact y_faz (k := 1) rfl Tryd.underlying25 rfl rfl Tryd.sizeOf22 rfl)) ?_
      refine vc_y rfl rfl ((by exact y_ld st 1 rfl Tryd.isAgg22 rfl rfl)) ?_
      refine vc_y rfl rfl ((by exact y_faz (k := 1) rfl Tryd.underlying25 rfl rfl Tryd.sizeOf22 rfl)) ?_
      refine vc_y rfl rfl ((by exact y_ld st 0 rfl Tryd.isAgg22 rfl rfl)) ?_
      refine vc_e (e_call [_, _] rfl rfl Tryd.call26 rfl (rdeclared_any p.locks q.locks _ _ _ _ _ (RowC.kept hL (Same.of_nil st.chg)) (RowC.kept hL' (Same.of_nil st.chg)) (by omega)) ?_)
      rintro _ w ⟨rfl, cw⟩
      replace st := st.call0 cw
      refine vc_y rfl rfl (y_not rfl) ?_
      refine vc_y rfl rfl (y_pickf rfl rfl) ?_
      refine vc_end ?_
      refine vq_then ?_
      refine vc_keep [(2, _), (3, _), (27, _)] ⟨rfl, rfl, rfl, trivial⟩ ?_
      refine vc_ifs rfl ?_ ?_
      · intro hc27
        try simp only [dn] at hc27
        refine vc_seq ?_
        refine vc_region ?_
        refine vc_y rfl rfl (y_as rfl) ?_
        refine vc_end ?_
        refine vq_then ?_
        refine vc_keep [(4, _)] ⟨rfl, trivial⟩ ?_
        refine vc_ret ?_
        refine vq_then_ret ?_
        refine vq_ret1 st (.inl rfl) Tryd.results10 (.tmp rfl) ?_
        refine ⟨_, rfl, ?_⟩
        refine ⟨?_, st.chg⟩
        clear st
        unfold exactP
        first
          | (rw [‹sameP p q = false›]; simp; done)
          | (rw [‹zipA eqD p.shared q.shared = false›]; simp; done)
          | (rw [‹zipA eqD p.locks q.locks = false›]; simp; done)
          | (rw [zipA_no (f := exT) hx hy (by unfold exT; simp_all)]; simp; done)
          | (rw [‹sameP p q = true›, ‹zipA eqD p.shared q.shared = true›, ‹zipA eqD p.locks q.locks = true›, zipA_yes hlen fun i x y hi h1 h2 => hall i x y (by omega) h1 h2]; rfl)
      · intro hc27
        try simp only [dn] at hc27
        have hsp : sameP p q = true := by assumption
        have hlen := sameP_len hsp
        refine vc_code_skip ?_
        refine vq_then ?_
        refine vc_keep [(2, _), (3, _)] ⟨rfl, rfl, trivial⟩ ?_
        refine vc_seq ?_
        refine vc_seq ?_
        refine vc_region ?_
        refine vc_y rfl rfl ((by exact y_faz (k := 2) rfl Tryd.underlying25 rfl rfl Tryd.sizeOf23 rfl)) ?_
        refine vc_y rfl rfl ((by exact y_ld st 1 rfl Tryd.isAgg23 rfl rfl)) ?_
        refine vc_y rfl rfl (y_lensl rfl Tryd.underlying23) ?_
        refine vc_y rfl rfl (y_mv rfl) ?_
        refine vc_end ?_
        refine vq_then ?_
        refine vc_keep [(2, _), (3, _), (30, _), (31, _)] ⟨rfl, rfl, rfl, rfl, trivial⟩ ?_
        refine vc_block ?_
        refine vc_loop (w0 := w0) (M := []) (fun (j : Nat) => [(2, .pointer (some ⟨b2, 0, none⟩)), (3, .pointer (some ⟨b3, 0, none⟩)), (30, .int .i64 (p.threads.length : Int)), (31, .int .i64 (j : Int))]) (fun _ => [.blk b2 (.cells (pgL p os ol ot cs cl ct).toArray 25 (0, 0)), .blk b3 (.cells (pgL q os' ol' ot' cs' cl' ct').toArray 25 (0, 0))]) (fun j _ => j ≤ p.threads.length ∧ ∀ (i : Nat) x y, i < j → p.threads[i]? = some x → q.threads[i]? = some y → exT x y = true) (fun j => p.threads.length - j) 0 ⟨rfl, rfl, rfl, rfl, trivial⟩ (st.pick [1, 0] rfl (by decide)) ⟨by omega, fun i x y h => by omega⟩ ?_
        clear st
        rintro j w ⟨hj, hall⟩ st
        refine vc_seq ?_
        refine vc_region ?_
        refine vc_y rfl rfl (y_lss rfl rfl) ?_
        refine vc_end ?_
        refine vq_then ?_
        refine vc_keep [(2, _), (3, _), (30, _), (31, _), (32, _)] ⟨rfl, rfl, rfl, rfl, rfl, trivial⟩ ?_
        refine vc_seq ?_
        refine vc_ifs rfl ?_ ?_
        · intro hc32
          try simp only [dn] at hc32
          have stK := st
          obtain ⟨x, hx⟩ : ∃ x, p.threads[j]? = some x := ⟨_, List.getElem?_eq_getElem (by omega)⟩
          obtain ⟨y, hy⟩ : ∃ y, q.threads[j]? = some y := ⟨_, List.getElem?_eq_getElem (by omega)⟩
          obtain ⟨gb, go, rfl, hgS, hgl, hg⟩ := ThRow.at hT (by omega)
          obtain ⟨fb, fo, rfl, hfS, hfl, hf⟩ := ThRow.at hT' (by omega)
          obtain ⟨tl, tb, cll, cbb, htl, htb, hc⟩ := hg j x hx
          obtain ⟨ul, ub, dll, dbb, hul, hub, hd⟩ := hf j y hy
          have hkx := hok.2.2.2 j x hx
          have st := stK
          clear stK
          refine vc_code_skip ?_
          refine vq_then ?_
          refine vc_keep [(2, _), (3, _), (30, _), (31, _)] ⟨rfl, rfl, rfl, rfl, trivial⟩ ?_
          refine vc_seq ?_
          refine vc_block ?_
          refine vc_seq ?_
          refine vc_region ?_
          refine vc_y rfl rfl (y_mv rfl) ?_
          refine vc_y rfl rfl (y_as rfl) ?_
          refine vc_end ?_
          refine vq_then ?_
          refine vc_keep [(2, _), (3, _), (5, _), (30, _), (31, _)] ⟨rfl, rfl, rfl, rfl, rfl, trivial⟩ ?_
          refine vc_cut (w0 := w0) (M := []) (fun (z : Nat × Nat) => [(2, .pointer (some ⟨b2, 0, none⟩)), (3, .pointer (some ⟨b3, 0, none⟩)), (6, .pointer (some ⟨z.1, 0, none⟩)), (7, .pointer (some ⟨z.2, 0, none⟩)), (30, .int .i64 (p.threads.length : Int)), (31, .int .i64 (j : Int))]) (fun z => [.blk b2 (.cells (pgL p os ol (some ⟨gb, go, none⟩) cs cl ct).toArray 25 (0, 0)), .blk b3 (.cells (pgL q os' ol' (some ⟨fb, fo, none⟩) cs' cl' ct').toArray 25 (0, 0)), .blk z.1 (.cells (thL x tl tb cll cbb).toArray 42 (0, 0)), .blk z.2 (.cells (thL y ul ub dll dbb).toArray 42 (0, 0))]) (fun _ _ => True) ?_ ?_
          ·
            refine vd_draw Tryd.mixed (.take 0 (.take 1 (.take 2 (.take 3 (.take 4 (.take 5 (.take 6 (.take 7 (.take 8 (.take 9 (.two 10 11 (.one 11 (.one 12 (.one 13 .done))) (.one 10 (.one 12 (.one 13 .done)))))))))))))) (fun w => St _ _ _ w) st (by kernel_rfl) (by repeat (first | exact okQ_body | refine okQ_then ?_ | refine okQ_block ?_)) rfl (by kernel_rfl) ?_
            intro w cd; replace st := st.call0 cd; clear cd
            have hS := st
            refine vd_take rfl rfl rfl hS (fun w st => (by exact y_faz (k := 2) rfl Tryd.underlying25 rfl rfl Tryd.sizeOf23 rfl)) ?_
            refine vd_take rfl rfl rfl hS (fun w st => (by exact y_ld st 0 rfl Tryd.isAgg23 rfl rfl)) ?_
            refine vd_take rfl rfl rfl hS (fun w st => y_mv rfl) ?_
            refine vd_take rfl rfl rfl hS (fun w st => (by exact y_ia (k := j) rfl rfl Tryd.underlying23 Tryd.sizeOf42 rfl (by omega))) ?_
            refine vd_take rfl rfl rfl hS (fun w st => (by exact y_ldca (thL x tl tb cll cbb) rfl Tryd.isAgg42 Tryd.sizeOf42 rfl (fun i v hi => st.chg.cell (hc i v hi) (by simp)))) ?_
            refine vd_take rfl rfl rfl hS (fun w st => (by exact y_faz (k := 2) rfl Tryd.underlying25 rfl rfl Tryd.sizeOf23 rfl)) ?_
            refine vd_take rfl rfl rfl hS (fun w st => (by exact y_ld st 1 rfl Tryd.isAgg23 rfl rfl)) ?_
            refine vd_take rfl rfl rfl hS (fun w st => y_mv rfl) ?_
            refine vd_take rfl rfl rfl hS (fun w st => (by exact y_ia (k := j) rfl rfl Tryd.underlying23 Tryd.sizeOf42 rfl (by omega))) ?_
            refine vd_take rfl rfl rfl hS (fun w st => (by exact y_ldca (thL y ul ub dll dbb) rfl Tryd.isAgg42 Tryd.sizeOf42 rfl (fun i v hi => st.chg.cell (hd i v hi) (by simp)))) ?_
            refine vd_two rfl rfl ?_ ?_
            ·
              refine (e_al (l := [_, _, _, _]) st rfl rfl Tryd.zeroValue42 rfl ?_)
              intro b6 w hb6 st
              refine vd_next (by exact st.drop (by repeat (first | exact sl0 | apply sl1 | apply sl2))) ?_; intro hS
              refine vd_do rfl (e_al (l := [_, _, _, _]) st rfl rfl Tryd.zeroValue42 rfl ?_)
              intro b7 w hb7 st
              refine vd_next (by exact st.drop (by repeat (first | exact sl0 | apply sl1 | apply sl2))) ?_; intro hS
              refine vd_do rfl (e_sts (vs := [_, _, _, _]) st 1 rfl rfl rfl rfl rfl Tryd.sizeOf42 rfl rfl (by first | (right; assumption) | (left; simp)) ?_)
              intro w st; dsimp only [setNth, wr] at st
              refine vd_next (by exact st.drop (by repeat (first | exact sl0 | apply sl1 | apply sl2))) ?_; intro hS
              refine vd_do rfl (e_sts (vs := [_, _, _, _]) st 0 rfl rfl rfl rfl rfl Tryd.sizeOf42 rfl rfl (by first | (right; assumption) | (left; simp)) ?_)
              intro w st; dsimp only [setNth, wr] at st
              refine vd_next (by exact st.drop (by repeat (first | exact sl0 | apply sl1 | apply sl2))) ?_; intro hS
              refine vd_end ?_
              refine vq_meet (b6, b7) ⟨rfl, rfl, rfl, rfl, rfl, rfl, trivial⟩ (st.pick [2, 3, 1, 0] rfl (by decide)) ?_
              · trivial
            ·
              refine (e_al (l := [_, _, _, _]) st rfl rfl Tryd.zeroValue42 rfl ?_)
              intro b7 w hb7 st
              refine vd_next (by exact st.drop (by repeat (first | exact sl0 | apply sl1 | apply sl2))) ?_; intro hS
              refine vd_do rfl (e_al (l := [_, _, _, _]) st rfl rfl Tryd.zeroValue42 rfl ?_)
              intro b6 w hb6 st
              refine vd_next (by exact st.drop (by repeat (first | exact sl0 | apply sl1 | apply sl2))) ?_; intro hS
              refine vd_do rfl (e_sts (vs := [_, _, _, _]) st 0 rfl rfl rfl rfl rfl Tryd.sizeOf42 rfl rfl (by first | (right; assumption) | (left; simp)) ?_)
              intro w st; dsimp only [setNth, wr] at st
              refine vd_next (by exact st.drop (by repeat (first | exact sl0 | apply sl1 | apply sl2))) ?_; intro hS
              refine vd_do rfl (e_sts (vs := [_, _, _, _]) st 1 rfl rfl rfl rfl rfl Tryd.sizeOf42 rfl rfl (by first | (right; assumption) | (left; simp)) ?_)
              intro w st; dsimp only [setNth, wr] at st
              refine vd_next (by exact st.drop (by repeat (first | exact sl0 | apply sl1 | apply sl2))) ?_; intro hS
              refine vd_end ?_
              refine vq_meet (b6, b7) ⟨rfl, rfl, rfl, rfl, rfl, rfl, trivial⟩ (st.pick [2, 3, 0, 1] rfl (by decide)) ?_
              · trivial
          ·
            clear st
            rintro ⟨b6, b7⟩ w - st
            dsimp only at *
            refine vc_seq ?_
            refine vc_region ?_
            refine vc_y rfl rfl ((by exact y_faz (k := 3) rfl Tryd.underlying42 rfl rfl Tryd.sizeOf3 rfl)) ?_
            refine vc_y rfl rfl ((by exact y_ld st 2 rfl Tryd.isAgg3 rfl rfl)) ?_
            refine vc_y rfl rfl ((by exact y_faz (k := 3) rfl Tryd.underlying42 rfl rfl Tryd.sizeOf3 rfl)) ?_
            refine vc_y rfl rfl ((by exact y_ld st 3 rfl Tryd.isAgg3 rfl rfl)) ?_
            refine vc_y rfl rfl (y_nei rfl rfl) ?_
            refine vc_e (e_mvb rfl rfl rfl ?_ ?_)
            · intro hg49
              try simp only [dn] at hg49
              refine vc_e (e_skip rfl rfl ?_)
              refine vc_e (e_skip rfl rfl ?_)
              refine vc_e (e_skip rfl rfl ?_)
              refine vc_e (e_skip rfl rfl ?_)
              refine vc_e (e_skip rfl rfl ?_)
              refine vc_e (e_skip rfl rfl ?_)
              refine vc_y rfl rfl (y_pickt rfl rfl) ?_
              refine vc_y rfl rfl (y_mv rfl) ?_
              refine vc_e (e_skip rfl rfl ?_)
              refine vc_e (e_skip rfl rfl ?_)
              refine vc_e (e_skip rfl rfl ?_)
              refine vc_e (e_skip rfl rfl ?_)
              refine vc_e (e_skip rfl rfl ?_)
              refine vc_e (e_skip rfl rfl ?_)
              refine vc_y rfl rfl (y_pickt rfl rfl) ?_
              refine vc_end ?_
              refine vq_then ?_
              refine vc_keep [(2, _), (3, _), (30, _), (31, _), (64, _)] ⟨rfl, rfl, rfl, rfl, rfl, trivial⟩ ?_
              refine vc_ift rfl ?_
              refine vc_seq ?_
              refine vc_region ?_
              refine vc_y rfl rfl (y_as rfl) ?_
              refine vc_end ?_
              refine vq_then ?_
              refine vc_keep [(4, _)] ⟨rfl, trivial⟩ ?_
              refine vc_ret ?_
              refine vq_block_ret ?_
              refine vq_then_ret ?_
              refine vq_then_ret ?_
              refine vq_block_ret ?_
              refine vq_then_ret ?_
              refine vq_ret1 st (.inl rfl) Tryd.results10 (.tmp rfl) ?_
              refine ⟨_, rfl, ?_⟩
              refine ⟨?_, st.chg⟩
              clear st
              unfold exactP
              first
                | (rw [‹sameP p q = false›]; simp; done)
                | (rw [‹zipA eqD p.shared q.shared = false›]; simp; done)
                | (rw [‹zipA eqD p.locks q.locks = false›]; simp; done)
                | (rw [zipA_no (f := exT) hx hy (by unfold exT; simp_all)]; simp; done)
                | (rw [‹sameP p q = true›, ‹zipA eqD p.shared q.shared = true›, ‹zipA eqD p.locks q.locks = true›, zipA_yes hlen fun i x y hi h1 h2 => hall i x y (by omega) h1 h2]; rfl)
            · intro hg49
              try simp only [dn] at hg49
              refine vc_y rfl rfl ((by exact y_faz (k := 1) rfl Tryd.underlying42 rfl rfl Tryd.sizeOf22 rfl)) ?_
              refine vc_y rfl rfl ((by exact y_ld st 2 rfl Tryd.isAgg22 rfl rfl)) ?_
              refine vc_y rfl rfl ((by exact y_faz (k := 1) rfl Tryd.underlying42 rfl rfl Tryd.sizeOf22 rfl)) ?_
              refine vc_y rfl rfl ((by exact y_ld st 3 rfl Tryd.isAgg22 rfl rfl)) ?_
              refine vc_e (e_call [_, _] rfl rfl Tryd.call26 rfl (rdeclared_any x.locals y.locals _ _ _ _ _ (RowC.kept htl (Same.of_nil st.chg)) (RowC.kept hul (Same.of_nil st.chg)) (by have := hkx.1.1; omega)) ?_)
              rintro _ w ⟨rfl, cw⟩
              replace st := st.call0 cw
              refine vc_y rfl rfl (y_not rfl) ?_
              refine vc_y rfl rfl (y_pickf rfl rfl) ?_
              refine vc_e (e_mvb rfl rfl rfl ?_ ?_)
              · intro hg57
                try simp only [dn] at hg57
                refine vc_e (e_skip rfl rfl ?_)
                refine vc_e (e_skip rfl rfl ?_)
                refine vc_e (e_skip rfl rfl ?_)
                refine vc_e (e_skip rfl rfl ?_)
                refine vc_e (e_skip rfl rfl ?_)
                refine vc_e (e_skip rfl rfl ?_)
                refine vc_y rfl rfl (y_pickt rfl rfl) ?_
                refine vc_end ?_
                refine vq_then ?_
                refine vc_keep [(2, _), (3, _), (30, _), (31, _), (64, _)] ⟨rfl, rfl, rfl, rfl, rfl, trivial⟩ ?_
                refine vc_ift rfl ?_
                refine vc_seq ?_
                refine vc_region ?_
                refine vc_y rfl rfl (y_as rfl) ?_
                refine vc_end ?_
                refine vq_then ?_
                refine vc_keep [(4, _)] ⟨rfl, trivial⟩ ?_
                refine vc_ret ?_
                refine vq_block_ret ?_
                refine vq_then_ret ?_
                refine vq_then_ret ?_
                refine vq_block_ret ?_
                refine vq_then_ret ?_
                refine vq_ret1 st (.inl rfl) Tryd.results10 (.tmp rfl) ?_
                refine ⟨_, rfl, ?_⟩
                refine ⟨?_, st.chg⟩
                clear st
                unfold exactP
                first
                  | (rw [‹sameP p q = false›]; simp; done)
                  | (rw [‹zipA eqD p.shared q.shared = false›]; simp; done)
                  | (rw [‹zipA eqD p.locks q.locks = false›]; simp; done)
                  | (rw [zipA_no (f := exT) hx hy (by unfold exT; simp_all)]; simp; done)
                  | (rw [‹sameP p q = true›, ‹zipA eqD p.shared q.shared = true›, ‹zipA eqD p.locks q.locks = true›, zipA_yes hlen fun i x y hi h1 h2 => hall i x y (by omega) h1 h2]; rfl)
              · intro hg57
                try simp only [dn] at hg57
                refine vc_y rfl rfl ((by exact y_faz (k := 2) rfl Tryd.underlying42 rfl rfl Tryd.sizeOf40 rfl)) ?_
                refine vc_y rfl rfl ((by exact y_ld st 2 rfl Tryd.isAgg40 rfl rfl)) ?_
                refine vc_y rfl rfl ((by exact y_faz (k := 2) rfl Tryd.underlying42 rfl rfl Tryd.sizeOf40 rfl)) ?_
                refine vc_y rfl rfl ((by exact y_ld st 3 rfl Tryd.isAgg40 rfl rfl)) ?_
                refine vc_e (e_call [_, _] rfl rfl Tryd.call27 rfl (rplacesS_any _ x.body rfl hkx.2.1 y.body _ _ _ _ _ (htb.kept (Same.of_nil st.chg)) (hub.kept (Same.of_nil st.chg))) ?_)
                rintro _ w ⟨rfl, cw⟩
                replace st := st.call0 cw
                refine vc_y rfl rfl (y_not rfl) ?_
                refine vc_y rfl rfl (y_pickf rfl rfl) ?_
                refine vc_end ?_
                refine vq_then ?_
                refine vc_keep [(2, _), (3, _), (30, _), (31, _), (64, _)] ⟨rfl, rfl, rfl, rfl, rfl, trivial⟩ ?_
                refine vc_ifs rfl ?_ ?_
                · intro hc64
                  try simp only [dn] at hc64
                  refine vc_seq ?_
                  refine vc_region ?_
                  refine vc_y rfl rfl (y_as rfl) ?_
                  refine vc_end ?_
                  refine vq_then ?_
                  refine vc_keep [(4, _)] ⟨rfl, trivial⟩ ?_
                  refine vc_ret ?_
                  refine vq_block_ret ?_
                  refine vq_then_ret ?_
                  refine vq_then_ret ?_
                  refine vq_block_ret ?_
                  refine vq_then_ret ?_
                  refine vq_ret1 st (.inl rfl) Tryd.results10 (.tmp rfl) ?_
                  refine ⟨_, rfl, ?_⟩
                  refine ⟨?_, st.chg⟩
                  clear st
                  unfold exactP
                  first
                    | (rw [‹sameP p q = false›]; simp; done)
                    | (rw [‹zipA eqD p.shared q.shared = false›]; simp; done)
                    | (rw [‹zipA eqD p.locks q.locks = false›]; simp; done)
                    | (rw [zipA_no (f := exT) hx hy (by unfold exT; simp_all)]; simp; done)
                    | (rw [‹sameP p q = true›, ‹zipA eqD p.shared q.shared = true›, ‹zipA eqD p.locks q.locks = true›, zipA_yes hlen fun i x y hi h1 h2 => hall i x y (by omega) h1 h2]; rfl)
                · intro hc64
                  try simp only [dn] at hc64
                  refine vc_code_skip ?_
                  refine vq_block ?_
                  refine vq_then ?_
                  refine vc_keep [(2, _), (3, _), (30, _), (31, _)] ⟨rfl, rfl, rfl, rfl, trivial⟩ ?_
                  refine vc_region ?_
                  refine vc_y rfl rfl (y_add rfl rfl (by omega : _ = ((j + 1 : Nat) : Int)) (by omega) (by omega)) ?_
                  refine vc_y rfl rfl (y_mv rfl) ?_
                  refine vc_end ?_
                  refine vq_again (j + 1)  ⟨rfl, rfl, rfl, rfl, trivial⟩ (st.pick [0, 1] rfl (by decide)) ?_ ?_
                  · exact ⟨by omega, fun i x' y' hi h1 h2 => by
                      rcases (by omega : i < j ∨ i = j) with h | rfl
                      · exact hall i x' y' h h1 h2
                      · rw [hx] at h1; rw [hy] at h2; cases h1; cases h2; (unfold exT; clear st; simp_all)⟩
                  · omega
        · intro hc32
          try simp only [dn] at hc32
          refine vc_exit ?_
          refine vq_then_exit ?_
          refine vq_then_exit ?_
          refine vq_block_exit ?_
          refine vq_then ?_
          refine vc_keep [] trivial ?_
          refine vc_seq ?_
          refine vc_region ?_
          refine vc_y rfl rfl (y_as rfl) ?_
          refine vc_end ?_
          refine vq_then ?_
          refine vc_keep [(4, _)] ⟨rfl, trivial⟩ ?_
          refine vc_ret ?_
          refine vq_ret1 st (.inl rfl) Tryd.results10 (.tmp rfl) ?_
          refine ⟨_, rfl, ?_⟩
          refine ⟨?_, st.chg⟩
          clear st
          unfold exactP
          first
            | (rw [‹sameP p q = false›]; simp; done)
            | (rw [‹zipA eqD p.shared q.shared = false›]; simp; done)
            | (rw [‹zipA eqD p.locks q.locks = false›]; simp; done)
            | (rw [zipA_no (f := exT) hx hy (by unfold exT; simp_all)]; simp; done)
            | (rw [‹sameP p q = true›, ‹zipA eqD p.shared q.shared = true›, ‹zipA eqD p.locks q.locks = true›, zipA_yes hlen fun i x y hi h1 h2 => hall i x y (by omega) h1 h2]; rfl)

end
end Go.Proofs.YtnmhlpnapgojjaaDoor


namespace Go.Proofs.YtnmhlpnapgojjaaDoor
open Go.RowKit Sx LexS
set_option linter.unusedVariables false
set_option linter.unusedSimpArgs false
section
variable {n0 : Nat}

end
end Go.Proofs.YtnmhlpnapgojjaaDoor


namespace Go.Proofs.YtnmhlpnapgojjaaDoor
open Go.RowKit Sx LexS
set_option linter.unusedVariables false
set_option linter.unusedSimpArgs false
def nameE (s : List UInt8) : Ex := .mk 2 0 0 s [] 0
def opE (op : Int) (x y : Ex) : Ex := .mk 4 op 0 [] [x, y] 0
/-- Expr's answer -/
def exprT (e : Ex) : List UInt8 × Nat := if rightE e 0 = true then (if (txtE e).length ≤ 65536 then (txtE e, 0) else ([], 4)) else ([], 40)
theorem exV_name (s : List UInt8) (w : World) (S : Nat → Prop) : ExV w S (nameE s) (exL (nameE s) none 0) := .mk (fun _ => []) (.inl rfl) (fun j x h => by simp at h)
theorem exV_two {w : World} {S : Nat → Prop} {op : Int} {x y : Ex} {lx ly : List Value} {b E : Nat} {fz : Nat × Nat} (h : w.heap[b]? = some (.cells (lx ++ ly).toArray E fz)) (hS : S b) (hx : ExV w S x lx) (hy : ExV w S y ly) : ExV w S (opE op x y) (exL (opE op x y) (some ⟨b, 0, none⟩) 2) := by
  have h6 := hx.len
  have h6' := hy.len
  refine .mk (fun j => if j = 0 then lx else ly) (.inr ⟨b, 0, rfl, hS, (Array.getElem?_eq_some_iff.1 h).1, fun j hj => ?_⟩) (fun j z hz => ?_)
  · simp only [List.length_cons, List.length_nil] at hj
    rcases (by omega : j = 0 ∨ j = 1) with rfl | rfl
    · refine ⟨h6, fun i v hi => ?_⟩
      refine cell_blk h ?_
      have hi' : lx[i]? = some v := hi
      rw [nth_eq, show 0 + 0 * 6 + i = i by omega, List.getElem?_append_left (List.getElem?_eq_some_iff.1 hi').1]
      exact hi'
    · refine ⟨h6', fun i v hi => ?_⟩
      refine cell_blk h ?_
      rw [nth_eq, show 0 + 1 * 6 + i = lx.length + i by omega, List.getElem?_append_right (by omega), Nat.add_sub_cancel_left]
      exact hi
  · match j, hz with
    | 0, hz => simp at hz; subst hz; exact hx
    | 1, hz => simp at hz; subst hz; exact hy
    | j + 2, hz => simp at hz
theorem rowC_one {w : World} {S : Nat → Prop} {b E sz : Nat} {fz : Nat × Nat} {l : List Value} {vs : Nat → List Value} (h : w.heap[b]? = some (.cells l.toArray E fz)) (hS : S b) (hl : l.length = sz) (hv : vs 0 = l) : RowC w S sz (some ⟨b, 0, none⟩) 1 vs := by
  refine .inr ⟨b, 0, rfl, hS, (Array.getElem?_eq_some_iff.1 h).1, fun j hj => ?_⟩
  obtain rfl : j = 0 := by omega
  rw [hv]
  refine ⟨hl, fun i v hi => cell_blk h ?_⟩
  rw [nth_eq, show 0 + 0 * sz + i = i by omega]
  exact hi
section
variable {n0 : Nat}

theorem name30_any (s : List UInt8) (w : World) : Ret Tryd.prog 30 [str s] w fun v w' => v = .agg (exL (nameE s) none 0).toArray ∧ Chg [] w w' := by
  refine ret_of [_] Tryd.func30 rfl Tryd.ntmps30 rfl ?_
  have st := St.init w []
  refine vc_seq ?_
  refine vc_region ?_
  refine vc_e (e_al (l := [_, _, _, _, _, _]) st rfl rfl Tryd.zeroValue63 rfl ?_)
  intro b2 w hb2 st
  refine vc_end ?_
  refine vq_then ?_
  refine vc_keep [(0, _), (2, _)] ⟨rfl, rfl, trivial⟩ ?_
  refine vc_seq ?_
  refine vc_region ?_
  refine vc_y rfl rfl (y_mv rfl) ?_
  refine vc_y rfl rfl (y_bld (.agg #[_, _, _, _, _, _]) [(0, _), (3, _)] rfl (fun w => by simp [Instr.build, go_sem] <;> repeat' constructor)) ?_
  refine vc_e (e_sts (vs := [_, _, _, _, _, _]) st 0 rfl rfl rfl rfl rfl Tryd.sizeOf63 rfl rfl (by first | (right; assumption) | (left; simp)) ?_)
  intro w st; dsimp only [setNth, wr] at st
  refine vc_end ?_
  refine vq_then ?_
  refine vc_keep [(2, _)] ⟨rfl, trivial⟩ ?_
  refine vc_ret ?_
  refine vq_ret1 st (.inl rfl) Tryd.results30 (by exact .cell 0 rfl rfl Tryd.isAgg63 Tryd.sizeOf63) ?_
  refine ⟨_, rfl, ?_⟩
  exact ⟨rfl, st.chg⟩

theorem binary_any (op : Int) (x y : Ex) (o o' : Option Addr) (c c' : Nat) (w : World) : Ret Tryd.prog 29 [.int .u8 op, .agg (exL x o c).toArray, .agg (exL y o' c').toArray] w fun v w' => ∃ b, v = .agg (exL (opE op x y) (some ⟨b, 0, none⟩) 2).toArray ∧ w.heap.size ≤ b ∧ w'.heap[b]? = some (.cells (exL x o c ++ exL y o' c').toArray 63 (0, 0)) ∧ Chg [] w w' := by
  refine ret_of [_, _, _] Tryd.func29 rfl Tryd.ntmps29 rfl ?_
  have st := St.init w []
  refine vc_seq ?_
  refine vc_region ?_
  refine vc_e (e_bx (l := [_, _, _, _, _, _]) st rfl rfl rfl rfl ?_)
  intro b4 w hb4 st
  refine vc_e (e_bx (l := [_, _, _, _, _, _]) st rfl rfl rfl rfl ?_)
  intro b5 w hb5 st
  refine vc_e (e_al (l := [_, _, _, _, _, _]) st rfl rfl Tryd.zeroValue63 rfl ?_)
  intro b6 w hb6 st
  refine vc_end ?_
  refine vq_then ?_
  refine vc_keep [(0, _), (4, _), (5, _), (6, _)] ⟨rfl, rfl, rfl, rfl, trivial⟩ ?_
  refine vc_seq ?_
  refine vc_region ?_
  refine vc_y rfl rfl (y_mv rfl) ?_
  refine vc_y rfl rfl ((by exact y_lda (vs := [_, _, _, _, _, _]) st 2 rfl Tryd.isAgg63 Tryd.sizeOf63 rfl rfl)) ?_
  refine vc_y rfl rfl ((by exact y_lda (vs := [_, _, _, _, _, _]) st 1 rfl Tryd.isAgg63 Tryd.sizeOf63 rfl rfl)) ?_
  refine vc_e (e_bsn (l := exL x o c ++ exL y o' c') (E := 63) st [(0, _), (1, _)] rfl rfl rfl (fun w => by simp [Instr.buildSlice, run_underlying Tryd.underlying61, Tryd.sizeOf63, Tryd.zeroValue63, Instr.fill, newRow, newObj, Sem.run, go_sem, Value.cells]) ?_)
  intro b10 w hb10 st
  refine vc_y rfl rfl (y_bld (.agg #[_, _, _, _, _, _]) [(0, _), (1, _), (4, _)] rfl (fun w => by simp [Instr.build, go_sem] <;> repeat' constructor)) ?_
  refine vc_e (e_sts (vs := [_, _, _, _, _, _]) st 1 rfl rfl rfl rfl rfl Tryd.sizeOf63 rfl rfl (by first | (right; assumption) | (left; simp)) ?_)
  intro w st; dsimp only [setNth, wr] at st
  refine vc_end ?_
  refine vq_then ?_
  refine vc_keep [(6, _)] ⟨rfl, trivial⟩ ?_
  refine vc_ret ?_
  refine vq_ret1 st (.inl rfl) Tryd.results29 (by exact .cell 1 rfl rfl Tryd.isAgg63 Tryd.sizeOf63) ?_
  refine ⟨_, rfl, ?_⟩
  exact ⟨b10, rfl, hb10, st.res (i := 0) rfl, st.chg⟩

theorem exprT_any (e : Ex) (hok : OkE e) (l : List Value) (w : World) (hV : ExV w (· < w.heap.size) e l) (hsg : Sig w) (hlen : (txtE e).length ≤ 1099511627776) :
    Ret Tryd.prog 28 [.agg l.toArray] w fun v w' => v = .tuple #[str (exprT e).1, .int .i64 ((exprT e).2 : Int)] ∧ Chg [] w w' := by
  refine ret_of [_] Tryd.func28 rfl Tryd.ntmps28 rfl ?_
  have st := St.init w []
  obtain ⟨w0, rfl⟩ : ∃ w0, w0 = w := ⟨_, rfl⟩
  have h0 := hsg.pos
  obtain ⟨oa, cap, rfl, hr⟩ := ExV.inv hV
  refine vc_seq ?_
  refine vc_region ?_
  refine vc_e (e_bx (l := [_, _, _, _, _, _]) st rfl rfl rfl rfl ?_)
  intro b1 w hb1 st
  refine vc_y rfl rfl (y_as rfl) ?_
  refine vc_y rfl rfl (y_as rfl) ?_
  refine vc_end ?_
  refine vq_then ?_
  refine vc_keep [(1, _)] ⟨rfl, trivial⟩ ?_
  refine vc_seq ?_
  refine vc_seq ?_
  refine vc_region ?_
  refine vc_y rfl rfl ((by exact y_lda (vs := [_, _, _, _, _, _]) st 0 rfl Tryd.isAgg63 Tryd.sizeOf63 rfl rfl)) ?_
  refine vc_e (e_call [_, _] rfl rfl Tryd.call63 rfl (expr_any _ e rfl 0 (by omega) _ _ (hV.kept (Same.of_nil st.chg)) (hsg.kept st.chg)) ?_)
  rintro _ w ⟨rfl, cw⟩
  replace st := st.call0 cw
  refine vc_y rfl rfl (y_not rfl) ?_
  refine vc_end ?_
  refine vq_then ?_
  refine vc_keep [(1, _), (7, _)] ⟨rfl, rfl, trivial⟩ ?_
  refine vc_ifs rfl ?_ ?_
  · intro hc7
    try simp only [dn] at hc7
    refine vc_seq ?_
    refine vc_region ?_
    refine vc_y rfl rfl (y_as rfl) ?_
    refine vc_y rfl rfl (y_as rfl) ?_
    refine vc_end ?_
    refine vq_then ?_
    refine vc_keep [(2, _), (3, _)] ⟨rfl, rfl, trivial⟩ ?_
    refine vc_ret ?_
    refine vq_then_ret ?_
    refine vq_ret2 st (.inl rfl) Tryd.results28 (.tmp rfl) (.tmp rfl) ?_
    refine ⟨_, rfl, ?_⟩
    refine ⟨?_, st.chg⟩
    unfold exprT
    rw [if_neg (by simp_all)]; rfl
  · intro hc7
    try simp only [dn] at hc7
    refine vc_code_skip ?_
    refine vq_then ?_
    refine vc_keep [(1, _)] ⟨rfl, trivial⟩ ?_
    refine vc_seq ?_
    refine vc_region ?_
    refine vc_y rfl rfl ((by exact y_lda (vs := [_, _, _, _, _, _]) st 0 rfl Tryd.isAgg63 Tryd.sizeOf63 rfl rfl)) ?_
    refine vc_e (e_call [_, _] rfl rfl Tryd.call64 rfl (text_any _ e rfl 0 (by assumption) hok (.slice none 0 0) [] _ _ (hV.kept (Same.of_nil st.chg)) (World.ownsRow_nil _ 0 5 1) (fun k hk => by simp [Value.ownBlock] at hk) st.chg.size h0 (hsg.kept st.chg) (by simpa using hlen)) ?_)
    rintro r w ⟨l2, hp, hT⟩
    obtain ⟨o2, c2, hv2⟩ := slice_form hp.1
    subst hv2
    replace st := st.call0 (by simpa [Value.ownBlock] using hp.2.1)
    obtain ⟨t1, t2, -, -⟩ := hT
    simp only [List.length_nil, Nat.zero_add, List.nil_append] at t1 t2
    refine vc_y rfl rfl (y_as rfl) ?_
    refine vc_end ?_
    refine vq_then ?_
    refine vc_keep [(4, _)] ⟨rfl, trivial⟩ ?_
    refine vc_seq ?_
    refine vc_seq ?_
    refine vc_region ?_
    refine vc_y rfl rfl (y_mv rfl) ?_
    refine vc_y rfl rfl (y_lensl rfl Tryd.underlying45) ?_
    refine vc_y rfl rfl (y_gtr rfl rfl) ?_
    refine vc_end ?_
    refine vq_then ?_
    refine vc_keep [(4, _), (12, _)] ⟨rfl, rfl, trivial⟩ ?_
    refine vc_ifs rfl ?_ ?_
    · intro hc12
      try simp only [dn] at hc12
      refine vc_seq ?_
      refine vc_region ?_
      refine vc_y rfl rfl (y_as rfl) ?_
      refine vc_y rfl rfl (y_as rfl) ?_
      refine vc_end ?_
      refine vq_then ?_
      refine vc_keep [(2, _), (3, _)] ⟨rfl, rfl, trivial⟩ ?_
      refine vc_ret ?_
      refine vq_then_ret ?_
      refine vq_ret2 st (.inl rfl) Tryd.results28 (.tmp rfl) (.tmp rfl) ?_
      refine ⟨_, rfl, ?_⟩
      refine ⟨?_, st.chg⟩
      have hlong : 65536 < (txtE e).length := by
        rcases Nat.lt_or_ge 65536 (txtE e).length with h | h
        · exact h
        · rw [t1 h] at *; omega
      unfold exprT
      rw [if_pos (by assumption), if_neg (by omega)]; rfl
    · intro hc12
      try simp only [dn] at hc12
      refine vc_code_skip ?_
      refine vq_then ?_
      refine vc_keep [(4, _)] ⟨rfl, trivial⟩ ?_
      refine vc_seq ?_
      refine vc_region ?_
      refine vc_y rfl rfl (y_mv rfl) ?_
      refine vc_y rfl rfl (y_b2s rfl (p := l2) (own_rdp hp.1) rfl Tryd.underlying45 Tryd.underlying5 Tryd.underlying9) ?_
      refine vc_y rfl rfl (y_as rfl) ?_
      refine vc_y rfl rfl (y_as rfl) ?_
      refine vc_end ?_
      refine vq_then ?_
      refine vc_keep [(2, _), (3, _)] ⟨rfl, rfl, trivial⟩ ?_
      refine vc_ret ?_
      refine vq_ret2 st (.inl rfl) Tryd.results28 (.tmp rfl) (.tmp rfl) ?_
      refine ⟨_, rfl, ?_⟩
      refine ⟨?_, st.chg⟩
      have hshort : (txtE e).length ≤ 65536 := by
        rcases Nat.lt_or_ge 65536 (txtE e).length with h | h
        · have := t2 h; omega
        · exact h
      unfold exprT
      rw [if_pos (by assumption), if_pos hshort, t1 hshort]; rfl

def eA : Ex := opE 2 (nameE [97]) (opE 2 (nameE [98]) (nameE [99]))
def eB : Ex := opE 1 (nameE [97]) (opE 3 (nameE [98]) (nameE [99]))
theorem exprT_A : exprT eA = ([97, 32, 45, 32, 40, 98, 32, 45, 32, 99, 41], 0) := by kernel_rfl
theorem exprT_B : exprT eB = ([97, 32, 43, 32, 98, 32, 42, 32, 99], 0) := by kernel_rfl
def sK : Sm := .mk 7 [] [] [] [] [] 0
def pA : Pg := ⟨[⟨[120], -3, 0⟩], [], [⟨[116], [], [sK], 0⟩]⟩
def pB : Pg := ⟨[], [⟨[105, 102], 0, 0⟩], []⟩
theorem pgRes_A : pgRes pA = ([115, 104, 97, 114, 101, 100, 32, 120, 32, 61, 32, 45, 51, 59, 10, 116, 104, 114, 101, 97, 100, 32, 116, 32, 123, 10, 32, 32, 115, 107, 105, 112, 59, 10, 125, 10], 0) := by kernel_rfl
theorem pgRes_B : pgRes pB = ([], 40) := by kernel_rfl
theorem len_A : (pgT pA).length ≤ 1099511627776 := by decide
theorem len_B : (pgT pB).length ≤ 1099511627776 := by decide
theorem nm_ok (s : List UInt8) : OkE (nameE s) := .mk (by simp [u8]) (by simp [u8]) (by simp [i64]) (by simp [i64]) (by simp) (fun j x h => by simp at h)
theorem op_ok {op : Int} {x y : Ex} (ho : u8 op) (hx : OkE x) (hy : OkE y) : OkE (opE op x y) := .mk (by simp [u8]) ho (by simp [i64]) (by simp [i64]) (by simp) (fun j z h => by
  match j, h with
  | 0, h => simp at h; subst h; exact hx
  | 1, h => simp at h; subst h; exact hy
  | j + 2, h => simp at h)
theorem eA_ok : OkE eA := op_ok (by simp [u8]) (nm_ok _) (op_ok (by simp [u8]) (nm_ok _) (nm_ok _))
theorem eB_ok : OkE eB := op_ok (by simp [u8]) (nm_ok _) (op_ok (by simp [u8]) (nm_ok _) (nm_ok _))
theorem sK_ok : OkS sK := .mk (by simp [u8]) (by simp [i64]) ⟨by simp, fun j x h => by simp at h⟩ (by simp) (fun j x h => by simp at h) (by simp) (fun j x h => by simp at h)
theorem pA_ok : OkP pA := by
  refine ⟨⟨by decide, fun j x h => ?_⟩, ⟨by decide, fun j x h => by simp [pA] at h⟩, ⟨by decide, fun j t h => ?_⟩⟩
  · match j, h with
    | 0, h => simp [pA] at h; subst h; simp [i64]
    | j + 1, h => simp [pA] at h
  · match j, h with
    | 0, h =>
      simp [pA] at h; subst h
      refine ⟨⟨by simp, fun j x h => by simp at h⟩, ⟨by simp, fun j x h => ?_⟩, by simp [i64]⟩
      match j, h with
      | 0, h => simp at h; subst h; exact sK_ok
      | j + 1, h => simp at h
    | j + 1, h => simp [pA] at h
theorem pB_ok : OkP pB := by
  refine ⟨⟨by decide, fun j x h => by simp [pB] at h⟩, ⟨by decide, fun j x h => ?_⟩, ⟨by decide, fun j t h => by simp [pB] at h⟩⟩
  match j, h with
  | 0, h => simp [pB] at h; subst h; simp [i64]
  | j + 1, h => simp [pB] at h
theorem smV_K (w : World) (S : Nat → Prop) : SmV w S sK (smL sK none none none 0 0 0) := .mk (fun _ => []) (fun _ => []) ⟨fun _ => [], .inl rfl, fun j x h => by simp at h⟩ (.inl rfl) (fun j x h => by simp at h) (.inl rfl) (fun j x h => by simp at h)

set_option maxHeartbeats 2000000 in
theorem begins_any (w : World) (hsg : Sig w) : Ret Tryd.prog 11 [] w fun v w' => v = .bool true ∧ Chg [] w w' := by
  refine ret_of [] Tryd.func11 rfl Tryd.ntmps11 rfl ?_
  have st := St.init w []
  obtain ⟨w0, rfl⟩ : ∃ w0, w0 = w := ⟨_, rfl⟩
  refine vc_seq ?_
  refine vc_region ?_
  refine vc_y rfl rfl (y_as rfl) ?_
  refine vc_end ?_
  refine vq_then ?_
  refine vc_keep [] trivial ?_
  refine vc_seq ?_
  refine vc_region ?_
  refine vc_e (e_call [_] rfl rfl Tryd.call30 rfl (name30_any _ _) ?_)
  rintro _ w ⟨rfl, cw⟩
  replace st := st.call0 cw
  refine vc_e (e_call [_] rfl rfl Tryd.call30 rfl (name30_any _ _) ?_)
  rintro _ w ⟨rfl, cw⟩
  replace st := st.call0 cw
  refine vc_e (e_call [_] rfl rfl Tryd.call30 rfl (name30_any _ _) ?_)
  rintro _ w ⟨rfl, cw⟩
  replace st := st.call0 cw
  refine vc_e (e_call [_, _, _] rfl rfl Tryd.call29 rfl (binary_any 2 (nameE [98]) (nameE [99]) none none 0 0 _) ?_)
  rintro _ w ⟨d0, rfl, hd0, hh0, cw0⟩
  replace st := st.call0 cw0
  refine vc_e (e_call [_, _, _] rfl rfl Tryd.call29 rfl (binary_any 2 (nameE [97]) (opE 2 (nameE [98]) (nameE [99])) none (some ⟨d0, 0, none⟩) 0 2 _) ?_)
  rintro _ w ⟨d1, rfl, hd1, hh1, cw1⟩
  replace st := st.call0 cw1
  refine vc_e (e_call [_] rfl rfl Tryd.call28 rfl (exprT_any eA eA_ok _ _ (exV_two (op := 2) (x := nameE [97]) (y := opE 2 (nameE [98]) (nameE [99])) hh1 (Array.getElem?_eq_some_iff.1 hh1).1 (exV_name _ _ _) (exV_two (cw1.heap hh0 (by simp)) (Array.getElem?_eq_some_iff.1 (cw1.heap hh0 (by simp))).1 (exV_name _ _ _) (exV_name _ _ _))) (hsg.kept st.chg) (by decide)) ?_)
  rintro _ w ⟨rfl, cw⟩
  replace st := st.call0 cw
  rw [exprT_A]
  refine vc_y rfl rfl (y_mv rfl) ?_
  refine vc_y rfl rfl (y_ext rfl rfl) ?_
  refine vc_y rfl rfl (y_ext rfl rfl) ?_
  refine vc_y rfl rfl (y_as rfl) ?_
  refine vc_y rfl rfl (y_as rfl) ?_
  refine vc_end ?_
  refine vq_then ?_
  refine vc_keep [(1, _), (2, _)] ⟨rfl, rfl, trivial⟩ ?_
  refine vc_seq ?_
  refine vc_region ?_
  refine vc_e (e_call [_] rfl rfl Tryd.call30 rfl (name30_any _ _) ?_)
  rintro _ w ⟨rfl, cw⟩
  replace st := st.call0 cw
  refine vc_e (e_call [_] rfl rfl Tryd.call30 rfl (name30_any _ _) ?_)
  rintro _ w ⟨rfl, cw⟩
  replace st := st.call0 cw
  refine vc_e (e_call [_] rfl rfl Tryd.call30 rfl (name30_any _ _) ?_)
  rintro _ w ⟨rfl, cw⟩
  replace st := st.call0 cw
  refine vc_e (e_call [_, _, _] rfl rfl Tryd.call29 rfl (binary_any 3 (nameE [98]) (nameE [99]) none none 0 0 _) ?_)
  rintro _ w ⟨d2, rfl, hd2, hh2, cw2⟩
  replace st := st.call0 cw2
  refine vc_e (e_call [_, _, _] rfl rfl Tryd.call29 rfl (binary_any 1 (nameE [97]) (opE 3 (nameE [98]) (nameE [99])) none (some ⟨d2, 0, none⟩) 0 2 _) ?_)
  rintro _ w ⟨d3, rfl, hd3, hh3, cw3⟩
  replace st := st.call0 cw3
  refine vc_e (e_call [_] rfl rfl Tryd.call28 rfl (exprT_any eB eB_ok _ _ (exV_two (op := 1) (x := nameE [97]) (y := opE 3 (nameE [98]) (nameE [99])) hh3 (Array.getElem?_eq_some_iff.1 hh3).1 (exV_name _ _ _) (exV_two (cw3.heap hh2 (by simp)) (Array.getElem?_eq_some_iff.1 (cw3.heap hh2 (by simp))).1 (exV_name _ _ _) (exV_name _ _ _))) (hsg.kept st.chg) (by decide)) ?_)
  rintro _ w ⟨rfl, cw⟩
  replace st := st.call0 cw
  rw [exprT_B]
  refine vc_y rfl rfl (y_mv rfl) ?_
  refine vc_y rfl rfl (y_ext rfl rfl) ?_
  refine vc_y rfl rfl (y_ext rfl rfl) ?_
  refine vc_y rfl rfl (y_as rfl) ?_
  refine vc_y rfl rfl (y_as rfl) ?_
  refine vc_end ?_
  refine vq_then ?_
  refine vc_keep [(1, _), (2, _), (3, _), (4, _)] ⟨rfl, rfl, rfl, rfl, trivial⟩ ?_
  refine vc_seq ?_
  refine vc_region ?_
  refine vc_y rfl rfl (y_bld (.agg #[_, _, _]) [(0, _), (1, _)] rfl (fun w => by simp [Instr.build, go_sem] <;> repeat' constructor)) ?_
  refine vc_e (e_bs1 (l := [_, _, _]) st rfl rfl rfl rfl Tryd.underlying22 Tryd.sizeOf67 rfl rfl rfl Tryd.zeroValue67 ?_)
  intro b27 w hb27 st
  refine vc_y rfl rfl (y_bld (.agg #[_, _, _, _, _, _, _]) [(0, _)] rfl (fun w => by simp [Instr.build, go_sem] <;> repeat' constructor)) ?_
  refine vc_e (e_bs1 (l := [_, _, _, _, _, _, _]) st rfl rfl rfl rfl Tryd.underlying40 Tryd.sizeOf70 rfl rfl rfl Tryd.zeroValue70 ?_)
  intro b29 w hb29 st
  refine vc_y rfl rfl (y_bld (.agg #[_, _, _, _]) [(0, _), (2, _)] rfl (fun w => by simp [Instr.build, go_sem] <;> repeat' constructor)) ?_
  refine vc_e (e_bs1 (l := [_, _, _, _]) st rfl rfl rfl rfl Tryd.underlying23 Tryd.sizeOf42 rfl rfl rfl Tryd.zeroValue42 ?_)
  intro b31 w hb31 st
  refine vc_y rfl rfl (y_bld (.agg #[_, _, _]) [(0, _), (2, _)] rfl (fun w => by simp [Instr.build, go_sem] <;> repeat' constructor)) ?_
  refine vc_e (e_call [_] rfl rfl Tryd.call7 rfl (wprintP_any pA _ _ _ _ _ _ _ (rowC_one (st.res (i := 2) rfl) (Array.getElem?_eq_some_iff.1 (st.res (i := 2) rfl)).1 rfl rfl) (.inl rfl) ⟨fun _ => thL ⟨[116], [], [sK], 0⟩ none _ 0 _, rowC_one (st.res (i := 0) rfl) (Array.getElem?_eq_some_iff.1 (st.res (i := 0) rfl)).1 rfl rfl, fun j x hj => by
      match j, hj with
      | 0, hj => simp [pA] at hj; subst hj; exact ⟨none, 0, _, _, rfl, .inl rfl, fun _ => smL sK none none none 0 0 0, rowC_one (st.res (i := 1) rfl) (Array.getElem?_eq_some_iff.1 (st.res (i := 1) rfl)).1 rfl rfl, fun j x hj => by
          match j, hj with
          | 0, hj => simp at hj; subst hj; exact smV_K _ _
          | j + 1, hj => simp at hj⟩
      | j + 1, hj => simp [pA] at hj⟩ pA_ok (hsg.kept st.chg) (fun _ => len_A)) ?_)
  rintro _ w ⟨rfl, cw⟩
  replace st := st.call0 cw
  rw [pgRes_A]
  refine vc_y rfl rfl (y_mv rfl) ?_
  refine vc_y rfl rfl (y_ext rfl rfl) ?_
  refine vc_y rfl rfl (y_ext rfl rfl) ?_
  refine vc_y rfl rfl (y_as rfl) ?_
  refine vc_y rfl rfl (y_as rfl) ?_
  refine vc_end ?_
  refine vq_then ?_
  refine vc_keep [(1, _), (2, _), (3, _), (4, _), (5, _), (6, _)] ⟨rfl, rfl, rfl, rfl, rfl, rfl, trivial⟩ ?_
  refine vc_seq ?_
  refine vc_region ?_
  refine vc_y rfl rfl (y_mv rfl) ?_
  refine vc_y rfl rfl (y_eqi rfl rfl) ?_
  refine vc_e (e_mvb rfl rfl rfl ?_ ?_)
  · intro hg38
    try simp only [dn] at hg38
    refine vc_y rfl rfl (y_mv rfl) ?_
    refine vc_y rfl rfl (y_eqs rfl rfl) ?_
    refine vc_y rfl rfl (y_pickt rfl rfl) ?_
    refine vc_e (e_mvb rfl rfl rfl ?_ ?_)
    · intro hg42
      try simp only [dn] at hg42
      refine vc_y rfl rfl (y_mv rfl) ?_
      refine vc_y rfl rfl (y_eqi rfl rfl) ?_
      refine vc_y rfl rfl (y_pickt rfl rfl) ?_
      refine vc_e (e_mvb rfl rfl rfl ?_ ?_)
      · intro hg46
        try simp only [dn] at hg46
        refine vc_y rfl rfl (y_mv rfl) ?_
        refine vc_y rfl rfl (y_eqs rfl rfl) ?_
        refine vc_y rfl rfl (y_pickt rfl rfl) ?_
        refine vc_e (e_mvb rfl rfl rfl ?_ ?_)
        · intro hg50
          try simp only [dn] at hg50
          refine vc_y rfl rfl (y_mv rfl) ?_
          refine vc_y rfl rfl (y_eqi rfl rfl) ?_
          refine vc_y rfl rfl (y_pickt rfl rfl) ?_
          refine vc_e (e_mvb rfl rfl rfl ?_ ?_)
          · intro hg54
            try simp only [dn] at hg54
            refine vc_y rfl rfl (y_mv rfl) ?_
            refine vc_y rfl rfl (y_eqs rfl rfl) ?_
            refine vc_y rfl rfl (y_pickt rfl rfl) ?_
            refine vc_e (e_mvb rfl rfl rfl ?_ ?_)
            · intro hg58
              try simp only [dn] at hg58
              refine vc_y rfl rfl (y_bld (.agg #[_, _, _]) [(0, _)] rfl (fun w => by simp [Instr.build, go_sem] <;> repeat' constructor)) ?_
              refine vc_e (e_bs1 (l := [_, _, _]) st rfl rfl rfl rfl Tryd.underlying22 Tryd.sizeOf67 rfl rfl rfl Tryd.zeroValue67 ?_)
              intro b60 w hb60 st
              refine vc_y rfl rfl (y_bld (.agg #[_, _, _]) [(1, _)] rfl (fun w => by simp [Instr.build, go_sem] <;> repeat' constructor)) ?_
              refine vc_e (e_call [_] rfl rfl Tryd.call9 rfl (wcheckP_any pB _ _ _ _ _ _ _ (.inl rfl) (rowC_one (st.res (i := 0) rfl) (Array.getElem?_eq_some_iff.1 (st.res (i := 0) rfl)).1 rfl rfl) ⟨fun _ => [], .inl rfl, fun j x hj => by simp [pB] at hj⟩ pB_ok (hsg.kept st.chg) (fun _ => len_B)) ?_)
              rintro _ w ⟨rfl, cw⟩
              replace st := st.call0 cw
              rw [pgRes_B]
              refine vc_y rfl rfl (y_eqi rfl rfl) ?_
              refine vc_y rfl rfl (y_pickt rfl rfl) ?_
              refine vc_y rfl rfl (y_as rfl) ?_
              refine vc_end ?_
              refine vq_then ?_
              refine vc_keep [(0, _)] ⟨rfl, trivial⟩ ?_
              refine vc_ret ?_
              refine vq_ret1 st (.inl rfl) Tryd.results11 (.tmp rfl) ?_
              refine ⟨_, rfl, ?_⟩
              first | exact ⟨rfl, st.chg⟩ | (exfalso; simp_all; done)
            · intro hg58
              try simp only [dn] at hg58
              refine vc_e (e_skip rfl rfl ?_)
              refine vc_e (e_skip rfl rfl ?_)
              refine vc_e (e_skip rfl rfl ?_)
              refine vc_e (e_skip rfl rfl ?_)
              refine vc_e (e_skip rfl rfl ?_)
              refine vc_y rfl rfl (y_pickf rfl rfl) ?_
              refine vc_y rfl rfl (y_as rfl) ?_
              refine vc_end ?_
              refine vq_then ?_
              refine vc_keep [(0, _)] ⟨rfl, trivial⟩ ?_
              refine vc_ret ?_
              refine vq_ret1 st (.inl rfl) Tryd.results11 (.tmp rfl) ?_
              refine ⟨_, rfl, ?_⟩
              first | exact ⟨rfl, st.chg⟩ | (exfalso; simp_all; done)
          · intro hg54
            try simp only [dn] at hg54
            refine vc_e (e_skip rfl rfl ?_)
            refine vc_e (e_skip rfl rfl ?_)
            refine vc_y rfl rfl (y_pickf rfl rfl) ?_
            refine vc_y rfl rfl (y_mv rfl) ?_
            refine vc_e (e_skip rfl rfl ?_)
            refine vc_e (e_skip rfl rfl ?_)
            refine vc_e (e_skip rfl rfl ?_)
            refine vc_e (e_skip rfl rfl ?_)
            refine vc_e (e_skip rfl rfl ?_)
            refine vc_y rfl rfl (y_pickf rfl rfl) ?_
            refine vc_y rfl rfl (y_as rfl) ?_
            refine vc_end ?_
            refine vq_then ?_
            refine vc_keep [(0, _)] ⟨rfl, trivial⟩ ?_
            refine vc_ret ?_
            refine vq_ret1 st (.inl rfl) Tryd.results11 (.tmp rfl) ?_
            refine ⟨_, rfl, ?_⟩
            first | exact ⟨rfl, st.chg⟩ | (exfalso; simp_all; done)
        · intro hg50
          try simp only [dn] at hg50
          refine vc_e (e_skip rfl rfl ?_)
          refine vc_e (e_skip rfl rfl ?_)
          refine vc_y rfl rfl (y_pickf rfl rfl) ?_
          refine vc_y rfl rfl (y_mv rfl) ?_
          refine vc_e (e_skip rfl rfl ?_)
          refine vc_e (e_skip rfl rfl ?_)
          refine vc_y rfl rfl (y_pickf rfl rfl) ?_
          refine vc_y rfl rfl (y_mv rfl) ?_
          refine vc_e (e_skip rfl rfl ?_)
          refine vc_e (e_skip rfl rfl ?_)
          refine vc_e (e_skip rfl rfl ?_)
          refine vc_e (e_skip rfl rfl ?_)
          refine vc_e (e_skip rfl rfl ?_)
          refine vc_y rfl rfl (y_pickf rfl rfl) ?_
          refine vc_y rfl rfl (y_as rfl) ?_
          refine vc_end ?_
          refine vq_then ?_
          refine vc_keep [(0, _)] ⟨rfl, trivial⟩ ?_
          refine vc_ret ?_
          refine vq_ret1 st (.inl rfl) Tryd.results11 (.tmp rfl) ?_
          refine ⟨_, rfl, ?_⟩
          first | exact ⟨rfl, st.chg⟩ | (exfalso; simp_all; done)
      · intro hg46
        try simp only [dn] at hg46
        refine vc_e (e_skip rfl rfl ?_)
        refine vc_e (e_skip rfl rfl ?_)
        refine vc_y rfl rfl (y_pickf rfl rfl) ?_
        refine vc_y rfl rfl (y_mv rfl) ?_
        refine vc_e (e_skip rfl rfl ?_)
        refine vc_e (e_skip rfl rfl ?_)
        refine vc_y rfl rfl (y_pickf rfl rfl) ?_
        refine vc_y rfl rfl (y_mv rfl) ?_
        refine vc_e (e_skip rfl rfl ?_)
        refine vc_e (e_skip rfl rfl ?_)
        refine vc_y rfl rfl (y_pickf rfl rfl) ?_
        refine vc_y rfl rfl (y_mv rfl) ?_
        refine vc_e (e_skip rfl rfl ?_)
        refine vc_e (e_skip rfl rfl ?_)
        refine vc_e (e_skip rfl rfl ?_)
        refine vc_e (e_skip rfl rfl ?_)
        refine vc_e (e_skip rfl rfl ?_)
        refine vc_y rfl rfl (y_pickf rfl rfl) ?_
        refine vc_y rfl rfl (y_as rfl) ?_
        refine vc_end ?_
        refine vq_then ?_
        refine vc_keep [(0, _)] ⟨rfl, trivial⟩ ?_
        refine vc_ret ?_
        refine vq_ret1 st (.inl rfl) Tryd.results11 (.tmp rfl) ?_
        refine ⟨_, rfl, ?_⟩
        first | exact ⟨rfl, st.chg⟩ | (exfalso; simp_all; done)
    · intro hg42
      try simp only [dn] at hg42
      refine vc_e (e_skip rfl rfl ?_)
      refine vc_e (e_skip rfl rfl ?_)
      refine vc_y rfl rfl (y_pickf rfl rfl) ?_
      refine vc_y rfl rfl (y_mv rfl) ?_
      refine vc_e (e_skip rfl rfl ?_)
      refine vc_e (e_skip rfl rfl ?_)
      refine vc_y rfl rfl (y_pickf rfl rfl) ?_
      refine vc_y rfl rfl (y_mv rfl) ?_
      refine vc_e (e_skip rfl rfl ?_)
      refine vc_e (e_skip rfl rfl ?_)
      refine vc_y rfl rfl (y_pickf rfl rfl) ?_
      refine vc_y rfl rfl (y_mv rfl) ?_
      refine vc_e (e_skip rfl rfl ?_)
      refine vc_e (e_skip rfl rfl ?_)
      refine vc_y rfl rfl (y_pickf rfl rfl) ?_
      refine vc_y rfl rfl (y_mv rfl) ?_
      refine vc_e (e_skip rfl rfl ?_)
      refine vc_e (e_skip rfl rfl ?_)
      refine vc_e (e_skip rfl rfl ?_)
      refine vc_e (e_skip rfl rfl ?_)
      refine vc_e (e_skip rfl rfl ?_)
      refine vc_y rfl rfl (y_pickf rfl rfl) ?_
      refine vc_y rfl rfl (y_as rfl) ?_
      refine vc_end ?_
      refine vq_then ?_
      refine vc_keep [(0, _)] ⟨rfl, trivial⟩ ?_
      refine vc_ret ?_
      refine vq_ret1 st (.inl rfl) Tryd.results11 (.tmp rfl) ?_
      refine ⟨_, rfl, ?_⟩
      first | exact ⟨rfl, st.chg⟩ | (exfalso; simp_all; done)
  · intro hg38
    try simp only [dn] at hg38
    refine vc_e (e_skip rfl rfl ?_)
    refine vc_e (e_skip rfl rfl ?_)
    refine vc_y rfl rfl (y_pickf rfl rfl) ?_
    refine vc_y rfl rfl (y_mv rfl) ?_
    refine vc_e (e_skip rfl rfl ?_)
    refine vc_e (e_skip rfl rfl ?_)
    refine vc_y rfl rfl (y_pickf rfl rfl) ?_
    refine vc_y rfl rfl (y_mv rfl) ?_
    refine vc_e (e_skip rfl rfl ?_)
    refine vc_e (e_skip rfl rfl ?_)
    refine vc_y rfl rfl (y_pickf rfl rfl) ?_
    refine vc_y rfl rfl (y_mv rfl) ?_
    refine vc_e (e_skip rfl rfl ?_)
    refine vc_e (e_skip rfl rfl ?_)
    refine vc_y rfl rfl (y_pickf rfl rfl) ?_
    refine vc_y rfl rfl (y_mv rfl) ?_
    refine vc_e (e_skip rfl rfl ?_)
    refine vc_e (e_skip rfl rfl ?_)
    refine vc_y rfl rfl (y_pickf rfl rfl) ?_
    refine vc_y rfl rfl (y_mv rfl) ?_
    refine vc_e (e_skip rfl rfl ?_)
    refine vc_e (e_skip rfl rfl ?_)
    refine vc_e (e_skip rfl rfl ?_)
    refine vc_e (e_skip rfl rfl ?_)
    refine vc_e (e_skip rfl rfl ?_)
    refine vc_y rfl rfl (y_pickf rfl rfl) ?_
    refine vc_y rfl rfl (y_as rfl) ?_
    refine vc_end ?_
    refine vq_then ?_
    refine vc_keep [(0, _)] ⟨rfl, trivial⟩ ?_
    refine vc_ret ?_
    refine vq_ret1 st (.inl rfl) Tryd.results11 (.tmp rfl) ?_
    refine ⟨_, rfl, ?_⟩
    first | exact ⟨rfl, st.chg⟩ | (exfalso; simp_all; done)

end
end Go.Proofs.YtnmhlpnapgojjaaDoor


namespace Go.Proofs.YtnmhlpnapgojjaaDoor
open Go.RowKit Sx LexS
set_option linter.unusedVariables false
set_option linter.unusedSimpArgs false
theorem PgQ.rows {w : World} {p : Pg} {gs gl gt : Option Addr} {gcs gcl gct : Nat} {S : List Nat} (h : PgQ w p (pgL p gs gl gt gcs gcl gct) S) : DcRow w (· < w.heap.size) gs p.shared ∧ DcRow w (· < w.heap.size) gl p.locks ∧ ThRow w (· < w.heap.size) gt p.threads := by
  obtain ⟨os, cs, ol, cl, ot, ct, e, h1, h2, h3⟩ := PgS.toV h (T := (· < w.heap.size)) (fun b hb => PgS.lt h b hb)
  simp only [List.cons.injEq, Value.slice.injEq, and_true, true_and] at e
  obtain ⟨⟨rfl, -⟩, ⟨rfl, -⟩, rfl, -⟩ := e
  exact ⟨h1, h2, h3⟩

end Go.Proofs.YtnmhlpnapgojjaaDoor


/- The engine, twenty-second part: a statement whose order is drawn, with stores behind what is read: the condition is asked for only until the first store. -/
namespace Sx
open Go Go.RowKit
set_option linter.unusedVariables false
set_option linter.unusedSimpArgs false

section
variable {P : Program} {md : Region.Mode} {ops : Array Oper} {Q : Exit → Act → World → Prop} {S : World → Prop} {s : Nat}
def wpAnyK (P : Program) (md : Region.Mode) (ops : Array Oper) (Q : Exit → Act → World → Prop) (s : Nat) (S : World → Prop) : Nat → Array Bool → Act → World → Prop
  | 0, listed, a, w => Region.ready md ops listed = [] ∧ Q .normal a w
  | fuel + 1, listed, a, w => (Region.ready md ops listed = [] → Q .normal a w) ∧
    ∀ i ∈ Region.ready md ops listed, wpOp P ops Q i (fun a' w' => ((listed.setIfInBounds i true).getD s false = false → S w') ∧ wpAnyK P md ops Q s S fuel (listed.setIfInBounds i true) a' w') a w
theorem wpAny_of_K : ∀ (fuel : Nat) (listed : Array Bool) (a : Act) (w : World), wpAnyK P md ops Q s S fuel listed a w → wpAny P md ops Q fuel listed a w
  | 0, _, _, _, h => h
  | fuel + 1, _, _, _, h => ⟨h.1, fun i hi => wpOp_mono (fun a' w' h' => wpAny_of_K fuel _ a' w' h'.2) (h.2 i hi)⟩
theorem getD_set_self {l : Array Bool} {i s : Nat} (h : i ≠ s) : (l.setIfInBounds i true).getD s false = l.getD s false := getD_set_ne false h
/-- what has come up has waited for all that it waits for -/
def DownL (md : Region.Mode) (ops : Array Oper) (listed : Array Bool) : Prop := ∀ j oj, ops[j]? = some oj → listed.getD j false = true → ∀ e ∈ oj.after, Region.binds md e = true → listed.getD e.on false = true
theorem DownL.set {listed : Array Bool} (h : DownL md ops listed) {j : Nat} (hj : j ∈ Region.ready md ops listed) : DownL md ops (listed.setIfInBounds j true) := by
  intro k ok hk hl e he hb
  have mono : ∀ m, listed.getD m false = true → (listed.setIfInBounds j true).getD m false = true := fun m hm => by
    by_cases hmj : j = m
    · subst hmj
      have : j < listed.size := by
        rcases Nat.lt_or_ge j listed.size with h | h
        · exact h
        · simp [Array.getElem?_eq_none h] at hm
      simp [this]
    · rw [getD_set_ne false hmj]; exact hm
  refine mono _ ?_
  by_cases hkj : j = k
  · subst hkj
    obtain ⟨-, oj, hoj, hall⟩ := mem_ready.1 hj
    rw [hk] at hoj
    cases hoj
    exact by simpa using hall e he hb
  · rw [getD_set_ne false hkj] at hl
    exact h k ok hk hl e he hb
theorem DownL.none (n : Nat) : DownL md ops (Array.replicate n false) := by
  intro j oj _ hl
  rcases Nat.lt_or_ge j n with h | h <;> simp [h] at hl
/-- an operation that yields the same in every world -/
theorem wpAnyK_firstU {i : Nat} {oi : Oper} {v : Value} (hi : ops[i]? = some oi) (hsel : ∀ (j : Nat) (o : Oper) cs b, ops[j]? = some o → o.op ≠ .select cs b)
    (hQ : ∀ c a w, Q (.panic c) (a.put oi.dst v) w → Q (.panic c) a w) (his : i ≠ s) :
    ∀ (fuel : Nat) (listed : Array Bool) (a : Act) (w : World),
      (∀ j oj, ops[j]? = some oj → j ≠ i → listed.getD j true = false → (∀ e ∈ oj.after, Region.binds md e = true → e.on ≠ i) → oi.apart ops oj = true) →
      i ∈ Region.ready md ops listed → YieldsIf P ops (fun _ => True) oi v a → (listed.getD s false = false → S w) →
      wpAnyK P md ops Q s S fuel (listed.setIfInBounds i true) (a.put oi.dst v) w → wpAnyK P md ops Q s S (fuel + 1) listed a w := by
  intro fuel
  induction fuel with
  | zero =>
    intro listed a w _ hr hy hS H
    refine ⟨fun h => (by rw [h] at hr; cases hr), fun j hj => ?_⟩
    by_cases hji : j = i
    · subst hji; exact hy.wpOp hi trivial ⟨fun h => hS (by rwa [getD_set_self his] at h), H⟩
    · have := ready_mono hj hji
      rw [H.1] at this
      cases this
  | succ fuel ih =>
    intro listed a w hfree hr hy hS H
    refine ⟨fun h => (by rw [h] at hr; cases hr), fun j hj => ?_⟩
    by_cases hji : j = i
    · subst hji; exact hy.wpOp hi trivial ⟨fun h => hS (by rwa [getD_set_self his] at h), H⟩
    · have h1 := H.2 j (ready_mono hj hji)
      obtain ⟨hjun, oj, hoj, hall⟩ := mem_ready.1 hj
      have hnot : ∀ e ∈ oj.after, Region.binds md e = true → e.on ≠ i := fun e he hb heq => by
        have h1 := hall e he hb
        have h0 := (mem_ready.1 hr).1
        rw [heq] at h1
        rcases Nat.lt_or_ge i listed.size with h' | h'
        · simp [h'] at h0 h1; rw [h0] at h1; cases h1
        · simp [Array.getElem?_eq_none h'] at h1
      have h2 := wpOp_putIf hoj (hfree j oj hoj hji hjun hnot) (fun cs b => hsel i oi cs b hi) (fun cs b => hsel j oj cs b hoj) hQ hy h1
      have hfree' : ∀ k ok, ops[k]? = some ok → k ≠ i → (listed.setIfInBounds j true).getD k true = false →
          (∀ e ∈ ok.after, Region.binds md e = true → e.on ≠ i) → oi.apart ops ok = true := fun k ok hk hki hun hno => by
        refine hfree k ok hk hki ?_ hno
        by_cases hjk : j = k
        · subst hjk; exact hjun
        · rw [getD_set_ne true hjk] at hun; exact hun
      have hcom : ∀ (h : (listed.setIfInBounds j true).getD s false = false), ((listed.setIfInBounds i true).setIfInBounds j true).getD s false = false := fun h => by
        rw [Array.setIfInBounds_comm _ _ (Ne.symm hji), getD_set_self his]; exact h
      refine wpOp_mono (fun a' w' h3 => ⟨fun h => h3.2.1 (hcom h), ih (listed.setIfInBounds j true) a' w' hfree' (ready_mono hr (Ne.symm hji)) h3.1 (fun h => h3.2.1 (hcom h)) ?_⟩) h2
      rw [Array.setIfInBounds_comm _ _ hji]
      exact h3.2.2
theorem wpAnyK_first {i : Nat} {oi : Oper} {v : Value} (hi : ops[i]? = some oi) (hsel : ∀ (j : Nat) (o : Oper) cs b, ops[j]? = some o → o.op ≠ .select cs b)
    (hQ : ∀ c a w, Q (.panic c) (a.put oi.dst v) w → Q (.panic c) a w) (his : i ≠ s) (hwait : ∀ os, ops[s]? = some os → ∃ e ∈ os.after, Region.binds md e = true ∧ (e.on = i ∨ ∃ om, ops[e.on]? = some om ∧ ∃ e' ∈ om.after, Region.binds md e' = true ∧ e'.on = i)) :
    ∀ (fuel : Nat) (listed : Array Bool) (a : Act) (w : World),
      (∀ j oj, ops[j]? = some oj → j ≠ i → listed.getD j true = false → (∀ e ∈ oj.after, Region.binds md e = true → e.on ≠ i) → oi.apart ops oj = true) →
      i ∈ Region.ready md ops listed → DownL md ops listed → listed.getD s false = false → YieldsIf P ops S oi v a → S w →
      wpAnyK P md ops Q s S fuel (listed.setIfInBounds i true) (a.put oi.dst v) w → wpAnyK P md ops Q s S (fuel + 1) listed a w := by
  intro fuel
  induction fuel with
  | zero =>
    intro listed a w _ hr hdn hl hy hS H
    refine ⟨fun h => (by rw [h] at hr; cases hr), fun j hj => ?_⟩
    by_cases hji : j = i
    · subst hji; exact hy.wpOp hi hS ⟨fun _ => hS, H⟩
    · have := ready_mono hj hji
      rw [H.1] at this
      cases this
  | succ fuel ih =>
    intro listed a w hfree hr hdn hl hy hS H
    refine ⟨fun h => (by rw [h] at hr; cases hr), fun j hj => ?_⟩
    by_cases hji : j = i
    · subst hji; exact hy.wpOp hi hS ⟨fun _ => hS, H⟩
    · have h1 := H.2 j (ready_mono hj hji)
      obtain ⟨hjun, oj, hoj, hall⟩ := mem_ready.1 hj
      have hun : ∀ e : Edge, e.on = i → ¬ (listed.getD e.on false = true) := fun e heq h1 => by
        have h0 := (mem_ready.1 hr).1
        rw [heq] at h1
        rcases Nat.lt_or_ge i listed.size with h' | h'
        · simp [h'] at h0 h1; rw [h0] at h1; cases h1
        · simp [Array.getElem?_eq_none h'] at h1
      have hnot : ∀ e ∈ oj.after, Region.binds md e = true → e.on ≠ i := fun e he hb heq => hun e heq (by simpa using hall e he hb)
      have hjs : j ≠ s := by
        rintro rfl
        obtain ⟨e, he, hb, heq | ⟨om, hom, e', he', hb', heq⟩⟩ := hwait oj hoj
        · exact hnot e he hb heq
        · exact hun e' heq (hdn _ om hom (by simpa using hall e he hb) e' he' hb')
      have h2 := wpOp_putIf hoj (hfree j oj hoj hji hjun hnot) (fun cs b => hsel i oi cs b hi) (fun cs b => hsel j oj cs b hoj) hQ hy h1
      have hfree' : ∀ k ok, ops[k]? = some ok → k ≠ i → (listed.setIfInBounds j true).getD k true = false →
          (∀ e ∈ ok.after, Region.binds md e = true → e.on ≠ i) → oi.apart ops ok = true := fun k ok hk hki hun hno => by
        refine hfree k ok hk hki ?_ hno
        by_cases hjk : j = k
        · subst hjk; exact hjun
        · rw [getD_set_ne true hjk] at hun; exact hun
      have hl1 : (listed.setIfInBounds j true).getD s false = false := by rw [getD_set_self hjs]; exact hl
      have hl2 : ((listed.setIfInBounds i true).setIfInBounds j true).getD s false = false := by rw [getD_set_self hjs, getD_set_self his]; exact hl
      refine wpOp_mono (fun a' w' h3 => ⟨fun _ => h3.2.1 hl2, ih (listed.setIfInBounds j true) a' w' hfree' (ready_mono hr (Ne.symm hji)) (hdn.set hj) hl1 h3.1 (h3.2.1 hl2) ?_⟩) h2
      rw [Array.setIfInBounds_comm _ _ hji]
      exact h3.2.2
end

def waitsB (L : Array Oper) (s i : Nat) : Bool := !(Nat.beq i s) && (match L[s]? with | some o => o.after.toList.any (fun e => Region.binds .any e && (Nat.beq e.on i || (match L[e.on]? with | some m => m.after.toList.any (fun e' => Region.binds .any e' && Nat.beq e'.on i) | none => false))) | none => true)
section
variable {P : Program} {n : Fr} {L : List Oper} {Q : Exit → Act → World → Prop} {kn : Kn} {w : World} {S : World → Prop} {s : Nat} {late : Bool}
def vK (P : Program) (n : Fr) (L : List Oper) (Q : Exit → Act → World → Prop) (s : Nat) (S : World → Prop) (late : Bool) (plan : List (Nat × Bool)) (kn : Kn) (w : World) : Prop :=
  ∀ a listed, okQ Q → Region.noSelect L.toArray = true → K n kn a → planD L.toArray plan listed = true → listed.getD s false = late → listed.size = L.length → DownL .any L.toArray listed → wpAnyK P .any L.toArray Q s S plan.length listed a w
def NK (P : Program) (L : List Oper) (Q : Exit → Act → World → Prop) (s : Nat) (S : World → Prop) (late : Bool) (plan : List (Nat × Bool)) (a : Act) (w : World) : Prop :=
  (late = false → S w) ∧ (okQ Q → Region.noSelect L.toArray = true → ∀ listed, planD L.toArray plan listed = true → listed.getD s false = late → listed.size = L.length → DownL .any L.toArray listed → wpAnyK P .any L.toArray Q s S plan.length listed a w)
theorem vk_next {plan : List (Nat × Bool)} (hS : S w) (h : S w → vK P n L Q s S false plan kn w) : vN n (NK P L Q s S false plan) kn w := fun a ha => ⟨fun _ => hS, fun hQ hsel listed hl hs hz hdn => h hS a listed hQ hsel ha hl hs hz hdn⟩
theorem vk_late {plan : List (Nat × Bool)} (h : vK P n L Q s S true plan kn w) : vN n (NK P L Q s S true plan) kn w := fun a ha => ⟨(fun h => by cases h), fun hQ hsel listed hl hs hz hdn => h a listed hQ hsel ha hl hs hz hdn⟩
theorem vk_end (h : vcQ n Q .normal kn w) : vK P n L Q s S late [] kn w := fun a listed hQ hsel ha hl hs hz hdn => by
  simp only [planD, List.isEmpty_iff] at hl
  exact ⟨hl, h a ha⟩
theorem waits_spec {ops : Array Oper} {s i : Nat} (h : waitsB ops s i = true) : i ≠ s ∧ ∀ os, ops[s]? = some os → ∃ e ∈ os.after, Region.binds .any e = true ∧ (e.on = i ∨ ∃ om, ops[e.on]? = some om ∧ ∃ e' ∈ om.after, Region.binds .any e' = true ∧ e'.on = i) := by
  unfold waitsB at h
  simp only [Bool.and_eq_true, Bool.not_eq_true'] at h
  refine ⟨(fun e => by subst e; simp at h), fun os hos => ?_⟩
  rw [hos] at h
  obtain ⟨e, he, h2⟩ := List.any_eq_true.1 h.2
  simp only [Bool.and_eq_true] at h2
  simp only [Bool.or_eq_true] at h2
  refine ⟨e, by simpa using he, h2.1, ?_⟩
  rcases h2.2 with h3 | h3
  · exact .inl (Nat.eq_of_beq_eq_true h3)
  · right
    cases hm : ops[e.on]? with
    | none => rw [hm] at h3; cases h3
    | some om =>
      rw [hm] at h3
      obtain ⟨e', he', h4⟩ := List.any_eq_true.1 h3
      simp only [Bool.and_eq_true] at h4
      exact ⟨om, rfl, e', by simpa using he', h4.1, Nat.eq_of_beq_eq_true h4.2⟩
theorem vk_take {i : Nat} {o : Oper} {v : Value} {r : List (Nat × Bool)} (hi : nth L i = some o) (hw : gd L kn o.guard = some true) (hd : okDst n o.dst = true) (hwt : waitsB L.toArray s i = true)
    (hS : S w) (y : ∀ w', S w' → Y P n kn w' o v) (next : vK P n L Q s S false r (put o.dst v kn) w) : vK P n L Q s S false ((i, true) :: r) kn w := by
  intro a listed hQ hsel ha hl hs hz hdn
  simp only [planD, Bool.and_eq_true] at hl
  rw [nth_eq] at hi
  obtain ⟨h1, h2⟩ := waits_spec hwt
  exact wpAnyK_first (oi := o) (v := v) (by simpa using hi) (Region.noSelect_spec hsel) (fun c a w h => hQ c _ _ w (put_defers _ _ _) h) h1 h2 _ listed a w (Region.free_spec (by simpa using hi) hl.1.2) (by simpa using hl.1.1) hdn hs
    (.inl ⟨ha.gd hw, fun w' hS' => y w' hS' a ha⟩) hS (next _ _ hQ hsel (ha.put hd v) hl.2 (by rw [getD_set_self h1]; exact hs) (by simpa using hz) (hdn.set (by simpa using hl.1.1)))
theorem vk_takeU {i : Nat} {o : Oper} {v : Value} {r : List (Nat × Bool)} (hi : nth L i = some o) (hw : gd L kn o.guard = some true) (hd : okDst n o.dst = true) (his : Nat.beq i s = false)
    (hS : late = false → S w) (y : ∀ w', Y P n kn w' o v) (next : vK P n L Q s S late r (put o.dst v kn) w) : vK P n L Q s S late ((i, true) :: r) kn w := by
  intro a listed hQ hsel ha hl hs hz hdn
  simp only [planD, Bool.and_eq_true] at hl
  rw [nth_eq] at hi
  have h1 : i ≠ s := fun e => by subst e; simp at his
  exact wpAnyK_firstU (oi := o) (v := v) (by simpa using hi) (Region.noSelect_spec hsel) (fun c a w h => hQ c _ _ w (put_defers _ _ _) h) h1 _ listed a w (Region.free_spec (by simpa using hi) hl.1.2) (by simpa using hl.1.1)
    (.inl ⟨ha.gd hw, fun w' _ => y w' a ha⟩) (fun h => hS (by rw [← hs]; exact h)) (next _ _ hQ hsel (ha.put hd v) hl.2 (by rw [getD_set_self h1]; exact hs) (by simpa using hz) (hdn.set (by simpa using hl.1.1)))
theorem vk_do {i : Nat} {o : Oper} {r : List (Nat × Bool)} (hi : nth L i = some o) (hlt : Nat.blt i L.length = true) (e : vS P n L Q o (NK P L Q s S (late || Nat.beq i s) r) kn w) : vK P n L Q s S late ((i, false) :: r) kn w := by
  intro a listed hQ hsel ha hl hs hz hdn
  simp only [planD, Bool.and_eq_true, beq_iff_eq] at hl
  rw [nth_eq] at hi
  refine ⟨(fun h => by rw [hl.1] at h; cases h), fun j hj => ?_⟩
  rw [hl.1] at hj
  obtain rfl : j = i := by simpa using hj
  have hlate : (listed.setIfInBounds j true).getD s false = (late || Nat.beq j s) := by
    by_cases hjs : j = s
    · subst hjs
      have : j < listed.size := by rw [hz]; simpa [Nat.blt_eq] using hlt
      simp [this]
    · rw [getD_set_self hjs, hs]
      cases h : Nat.beq j s
      · simp
      · exact absurd (Nat.eq_of_beq_eq_true h) hjs
  have he := e a ha
  unfold wpOp
  simp only [List.getElem?_toArray, hi]
  split
  · rename_i hw
    rw [if_pos hw] at he
    exact he.imp (Oper.wp_mono (fun a' w' h => ⟨fun h2 => h.1 (by rw [← hlate]; exact h2), h.2 hQ hsel _ hl.2 hlate (by simpa using hz) (hdn.set (by rw [hl.1]; simp))⟩)) id
  · rename_i hw
    rw [if_neg hw] at he
    exact ⟨fun h2 => he.1 (by rw [← hlate]; exact h2), he.2 hQ hsel _ hl.2 hlate (by simpa using hz) (hdn.set (by rw [hl.1]; simp))⟩
theorem vk_draw {id : Nat} (hm : P.follows .mixedOrders = true) (plan : List (Nat × Bool)) (s : Nat) (S : World → Prop) (hS0 : S w) (hsel : Region.noSelect L.toArray = true) (hQ : okQ Q) (hlen : plan.length = L.length) (hplan : planD L.toArray plan (Array.replicate L.length false) = true) (hs : Nat.blt s L.length = true)
    (h : ∀ w', Chg [] w w' → vK P n L Q s S false plan kn w') : vcC P n (.region id L.toArray true) Q kn w := by
  intro a ha
  refine wp_region_any hm (wpAny_of_K (s := s) (S := S) _ _ _ _ ?_)
  have hs' : s < L.length := by simpa [Nat.blt_eq] using hs
  have := h w.drew (Chg.drew w) a (Array.replicate L.length false) hQ hsel ha hplan (by simp [hs']) (by simp) (DownL.none _)
  rw [hlen] at this
  rw [List.size_toArray]
  exact this
end
end Sx

