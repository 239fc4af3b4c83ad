/- A part of the proof: contracts of functions and plain laws; each theorem says its own conditions. -/
import Derived.Test.YtggnfanphcaamaaDoorPW
import Derived.Test.YtggnfanphcaamaaDoorK14
import Derived.Test.YtggnfanphcaamaaDoorK1
import Derived.Test.YtggnfanphcaamaaDoorK6
import Derived.Test.YtggnfanphcaamaaDoorK15
import Derived.Test.YtggnfanphcaamaaDoorK13
namespace Go.Proofs.YtggnfanphcaamaaDoor
open Go.RowKit Sx LexS _root_.Go.Proofs.Tryd
set_option linter.unusedVariables false
set_option linter.unusedSimpArgs false
section
variable {S : Nat → Prop}
theorem zipA_lenT {α β : Type} {f : α → β → Bool} {a : List α} {b : List β} (h : zipA f a b = true) : a.length = b.length := by
 by_cases h1 : a.length = b.length
 ·
  exact h1
 ·
  rw [zipA_len h1] at h; cases h
theorem sameP_len {p q : Pg} (h : sameP p q = true) : p.threads.length = q.threads.length := by
 unfold sameP at h
 simp only [Bool.and_eq_true] at h
 exact zipA_lenT h.2

set_option maxHeartbeats 2000000 in
theorem rsamePg_any (p q : Pg) (hok : OkP p) (os ol ot os' ol' ot' : Option Addr) (cs cl ct cs' cl' ct' : Nat) (w : World) (hSh : DcRow w S os p.shared) (hL : DcRow w S ol p.locks) (hT : ThRow w S ot p.threads) (hSh' : DcRow w S os' q.shared) (hL' : DcRow w S ol' q.locks) (hT' : ThRow w S ot' q.threads) :
    Ret Tryd.prog 24 [.agg (pgL p os ol ot cs cl ct).toArray, .agg (pgL q os' ol' ot' cs' cl' ct').toArray] w fun v w' => v = .bool (sameP p q) ∧ Chg [] w w' := by
 refine ret_of [_, _] func24 rfl ntmps24 rfl ?_
 have st := St.init w []
 obtain ⟨w0, rfl⟩ : ∃ w0, w0 = w := ⟨_, rfl⟩
 have hn1 := hok.1.1
 have hn2 := hok.2.1.1
 have hn3 := hok.2.2.1
 refine vc_seq (vc_region ?_)
 refine vc_e (e_bx (l := [_, _, _]) st rfl rfl rfl rfl ?_)
 intro b2 w hb2 st
 refine vc_e (e_bx (l := [_, _, _]) st rfl rfl rfl rfl ?_)
 intro b3 w hb3 st
 refine vc_y rfl rfl (y_as rfl) ?_
 refine vc_end (vq_then (vc_keep [(2, _), (3, _)] ⟨rfl, rfl, trivial⟩ (vc_seq (vc_seq (vc_region ?_)))))
 refine vc_y rfl rfl (y_fa0 rfl underlying44 rfl rfl sizeOf41 rfl) ?_
 refine vc_y rfl rfl ((by exact y_ld st 1 rfl isAgg41 rfl rfl)) ?_
 refine vc_y rfl rfl (y_fa0 rfl underlying44 rfl rfl sizeOf41 rfl) ?_
 refine vc_y rfl rfl ((by exact y_ld st 0 rfl isAgg41 rfl rfl)) ?_
 refine vc_e (e_call [_, _] rfl rfl call53 rfl (rdeclsS_any p.shared q.shared _ _ _ _ _ (RowC.kept hSh (Same.of_nil st.chg)) (RowC.kept hSh' (Same.of_nil st.chg)) (by omega)) ?_)
 rintro _ w ⟨rfl, cw⟩
 replace st := st.call0 cw
 refine vc_y rfl rfl (y_not rfl) ?_
 refine vc_e (e_mvb rfl rfl rfl ?_ ?_)
 ·
  intro hg14
  try simp only [dn] at hg14
  iterate 6 refine vc_e (e_skip rfl rfl ?_)
  refine vc_y rfl rfl (y_pickt rfl rfl) ?_
  refine vc_y rfl rfl (y_mv rfl) ?_
  iterate 7 refine vc_e (e_skip rfl rfl ?_)
  refine vc_y rfl rfl (y_pickt rfl rfl) ?_
  refine vc_end (vq_then (vc_keep [(2, _), (3, _), (30, _)] ⟨rfl, rfl, rfl, trivial⟩ ?_))
  refine vc_ift rfl ?_
  refine vc_seq (vc_region ?_)
  refine vc_y rfl rfl (y_as rfl) ?_
  refine vc_end (vq_then (vc_keep [(4, _)] ⟨rfl, trivial⟩ (vc_ret (vq_then_ret ?_))))
  refine vq_ret1 st (.inl rfl) results24 (.tmp rfl) ?_
  refine ⟨_, rfl, ?_⟩
  refine ⟨?_, st.chg⟩
  clear st
  unfold sameP
  first
   | (rw [‹zipA sameD p.shared q.shared = false›]; simp; done)
   | (rw [‹zipA sameD p.locks q.locks = false›]; simp; done)
   | (rw [zipA_len (f := sameT) (by omega)]; simp; done)
   | (rw [zipA_no (f := sameT) hx hy (by unfold sameT; simp_all)]; simp; done)
   | (rw [‹zipA sameD p.shared q.shared = true›, ‹zipA sameD p.locks q.locks = true›, zipA_yes (by omega) fun i x y hi h1 h2 => hall i x y (by omega) h1 h2]; rfl)
 ·
  intro hg14
  try simp only [dn] at hg14
  refine vc_y rfl rfl ((by exact y_faz (k := 1) rfl underlying44 rfl rfl sizeOf41 rfl)) ?_
  refine vc_y rfl rfl ((by exact y_ld st 1 rfl isAgg41 rfl rfl)) ?_
  refine vc_y rfl rfl ((by exact y_faz (k := 1) rfl underlying44 rfl rfl sizeOf41 rfl)) ?_
  refine vc_y rfl rfl ((by exact y_ld st 0 rfl isAgg41 rfl rfl)) ?_
  refine vc_e (e_call [_, _] rfl rfl call53 rfl (rdeclsS_any p.locks q.locks _ _ _ _ _ (RowC.kept hL (Same.of_nil st.chg)) (RowC.kept hL' (Same.of_nil st.chg)) (by omega)) ?_)
  rintro _ w ⟨rfl, cw⟩
  replace st := st.call0 cw
  refine vc_y rfl rfl (y_not rfl) ?_
  refine vc_y rfl rfl (y_pickf rfl rfl) ?_
  refine vc_e (e_mvb rfl rfl rfl ?_ ?_)
  ·
   intro hg22
   try simp only [dn] at hg22
   iterate 7 refine vc_e (e_skip rfl rfl ?_)
   refine vc_y rfl rfl (y_pickt rfl rfl) ?_
   refine vc_end (vq_then (vc_keep [(2, _), (3, _), (30, _)] ⟨rfl, rfl, rfl, trivial⟩ ?_))
   refine vc_ift rfl ?_
   refine vc_seq (vc_region ?_)
   refine vc_y rfl rfl (y_as rfl) ?_
   refine vc_end (vq_then (vc_keep [(4, _)] ⟨rfl, trivial⟩ (vc_ret (vq_then_ret ?_))))
   refine vq_ret1 st (.inl rfl) results24 (.tmp rfl) ?_
   refine ⟨_, rfl, ?_⟩
   refine ⟨?_, st.chg⟩
   clear st
   unfold sameP
   first
    | (rw [‹zipA sameD p.shared q.shared = false›]; simp; done)
    | (rw [‹zipA sameD p.locks q.locks = false›]; simp; done)
    | (rw [zipA_len (f := sameT) (by omega)]; simp; done)
    | (rw [zipA_no (f := sameT) hx hy (by unfold sameT; simp_all)]; simp; done)
    | (rw [‹zipA sameD p.shared q.shared = true›, ‹zipA sameD p.locks q.locks = true›, zipA_yes (by omega) fun i x y hi h1 h2 => hall i x y (by omega) h1 h2]; rfl)
  ·
   intro hg22
   try simp only [dn] at hg22
   refine vc_y rfl rfl ((by exact y_faz (k := 2) rfl underlying44 rfl rfl sizeOf42 rfl)) ?_
   refine vc_y rfl rfl ((by exact y_ld st 1 rfl isAgg42 rfl rfl)) ?_
   refine vc_y rfl rfl (y_lensl rfl underlying42) ?_
   refine vc_y rfl rfl ((by exact y_faz (k := 2) rfl underlying44 rfl rfl sizeOf42 rfl)) ?_
   refine vc_y rfl rfl ((by exact y_ld st 0 rfl isAgg42 rfl rfl)) ?_
   refine vc_y rfl rfl (y_lensl rfl underlying42) ?_
   refine vc_y rfl rfl (y_nei rfl rfl) ?_
   refine vc_y rfl rfl (y_pickf rfl rfl) ?_
   refine vc_end (vq_then (vc_keep [(2, _), (3, _), (30, _)] ⟨rfl, rfl, rfl, trivial⟩ ?_))
   refine vc_ifs rfl ?_ ?_
   ·
    intro hc30
    try simp only [dn] at hc30
    refine vc_seq (vc_region ?_)
    refine vc_y rfl rfl (y_as rfl) ?_
    refine vc_end (vq_then (vc_keep [(4, _)] ⟨rfl, trivial⟩ (vc_ret (vq_then_ret ?_))))
    refine vq_ret1 st (.inl rfl) results24 (.tmp rfl) ?_
    refine ⟨_, rfl, ?_⟩
    refine ⟨?_, st.chg⟩
    clear st
    unfold sameP
    first
     | (rw [‹zipA sameD p.shared q.shared = false›]; simp; done)
     | (rw [‹zipA sameD p.locks q.locks = false›]; simp; done)
     | (rw [zipA_len (f := sameT) (by omega)]; simp; done)
     | (rw [zipA_no (f := sameT) hx hy (by unfold sameT; simp_all)]; simp; done)
     | (rw [‹zipA sameD p.shared q.shared = true›, ‹zipA sameD p.locks q.locks = true›, zipA_yes (by omega) fun i x y hi h1 h2 => hall i x y (by omega) h1 h2]; rfl)
   ·
    intro hc30
    try simp only [dn] at hc30
    have hlen : p.threads.length = q.threads.length := by omega
    refine vc_code_skip (vq_then (vc_keep [(2, _), (3, _)] ⟨rfl, rfl, trivial⟩ (vc_seq (vc_seq (vc_region ?_)))))
    refine vc_y rfl rfl ((by exact y_faz (k := 2) rfl underlying44 rfl rfl sizeOf42 rfl)) ?_
    refine vc_y rfl rfl ((by exact y_ld st 1 rfl isAgg42 rfl rfl)) ?_
    refine vc_y rfl rfl (y_lensl rfl underlying42) ?_
    refine vc_y rfl rfl (y_mv rfl) ?_
    refine vc_end (vq_then (vc_keep [(2, _), (3, _), (33, _), (34, _)] ⟨rfl, rfl, rfl, rfl, trivial⟩ (vc_block ?_)))
    refine vc_loop (w0 := w0) (M := []) (fun (j : Nat) => [(2, .pointer (some ⟨b2, 0, none⟩)), (3, .pointer (some ⟨b3, 0, none⟩)), (33, .int .i64 (p.threads.length : Int)), (34, .int .i64 (j : Int))]) (fun _ => [.blk b2 (.cells (pgL p os ol ot cs cl ct).toArray 44 (0, 0)), .blk b3 (.cells (pgL q os' ol' ot' cs' cl' ct').toArray 44 (0, 0))]) (fun j _ => j ≤ p.threads.length ∧ ∀ (i : Nat) x y, i < j → p.threads[i]? = some x → q.threads[i]? = some y → sameT x y = true) (fun j => p.threads.length - j) 0 ⟨rfl, rfl, rfl, rfl, trivial⟩ (st.pick [1, 0] rfl (by decide)) ⟨by omega, fun i x y h => by omega⟩ ?_
    clear st
    rintro j w ⟨hj, hall⟩ st
    refine vc_seq (vc_region ?_)
    refine vc_y rfl rfl (y_lss rfl rfl) ?_
    refine vc_end (vq_then (vc_keep [(2, _), (3, _), (33, _), (34, _), (35, _)] ⟨rfl, rfl, rfl, rfl, rfl, trivial⟩ (vc_seq ?_)))
    refine vc_ifs rfl ?_ ?_
    ·
     intro hc35
     try simp only [dn] at hc35
     have stK := st
     obtain ⟨x, hx⟩ : ∃ x, p.threads[j]? = some x := ⟨_, List.getElem?_eq_getElem (by omega)⟩
     obtain ⟨y, hy⟩ : ∃ y, q.threads[j]? = some y := ⟨_, List.getElem?_eq_getElem (by omega)⟩
     obtain ⟨gb, go, rfl, hgS, hgl, hg⟩ := ThRow.at hT (by omega)
     obtain ⟨fb, fo, rfl, hfS, hfl, hf⟩ := ThRow.at hT' (by omega)
     obtain ⟨tl, tb, cll, cbb, htl, htb, hc⟩ := hg j x hx
     obtain ⟨ul, ub, dll, dbb, hul, hub, hd⟩ := hf j y hy
     have hkx := hok.2.2.2 j x hx
     have st := stK
     clear stK
     refine vc_code_skip (vq_then (vc_keep [(2, _), (3, _), (33, _), (34, _)] ⟨rfl, rfl, rfl, rfl, trivial⟩ (vc_seq (vc_block (vc_seq (vc_region ?_))))))
     refine vc_y rfl rfl (y_mv rfl) ?_
     refine vc_y rfl rfl (y_as rfl) ?_
     refine vc_end (vq_then (vc_keep [(2, _), (3, _), (5, _), (33, _), (34, _)] ⟨rfl, rfl, rfl, rfl, rfl, trivial⟩ ?_))
     refine vc_cut (w0 := w0) (M := []) (fun (z : Nat × Nat) => [(2, .pointer (some ⟨b2, 0, none⟩)), (3, .pointer (some ⟨b3, 0, none⟩)), (6, .pointer (some ⟨z.1, 0, none⟩)), (7, .pointer (some ⟨z.2, 0, none⟩)), (33, .int .i64 (p.threads.length : Int)), (34, .int .i64 (j : Int))]) (fun z => [.blk b2 (.cells (pgL p os ol (some ⟨gb, go, none⟩) cs cl ct).toArray 44 (0, 0)), .blk b3 (.cells (pgL q os' ol' (some ⟨fb, fo, none⟩) cs' cl' ct').toArray 44 (0, 0)), .blk z.1 (.cells (thL x tl tb cll cbb).toArray 78 (0, 0)), .blk z.2 (.cells (thL y ul ub dll dbb).toArray 78 (0, 0))]) (fun _ _ => True) ?_ ?_
     ·
      refine vd_draw Tryd.mixed (.take 0 (.take 1 (.take 2 (.take 3 (.take 4 (.take 5 (.take 6 (.take 7 (.take 8 (.take 9 (.two 10 11 (.one 11 (.one 12 (.one 13 .done))) (.one 10 (.one 12 (.one 13 .done)))))))))))))) (fun w => St _ _ _ w) st (by kernel_rfl) (by repeat (first | exact okQ_body | refine okQ_then ?_ | refine okQ_block ?_)) rfl (by kernel_rfl) ?_
      intro w cd; replace st := st.call0 cd; clear cd
      have hS := st
      refine vd_take rfl rfl rfl hS (fun w st => (by exact y_faz (k := 2) rfl underlying44 rfl rfl sizeOf42 rfl)) ?_
      refine vd_take rfl rfl rfl hS (fun w st => (by exact y_ld st 0 rfl isAgg42 rfl rfl)) ?_
      refine vd_take rfl rfl rfl hS (fun w st => y_mv rfl) ?_
      refine vd_take rfl rfl rfl hS (fun w st => (by exact y_ia (k := j) rfl rfl underlying42 sizeOf78 rfl (by omega))) ?_
      refine vd_take rfl rfl rfl hS (fun w st => (by exact y_ldca (thL x tl tb cll cbb) rfl isAgg78 sizeOf78 rfl (fun i v hi => st.chg.cell (hc i v hi) (by simp)))) ?_
      refine vd_take rfl rfl rfl hS (fun w st => (by exact y_faz (k := 2) rfl underlying44 rfl rfl sizeOf42 rfl)) ?_
      refine vd_take rfl rfl rfl hS (fun w st => (by exact y_ld st 1 rfl isAgg42 rfl rfl)) ?_
      refine vd_take rfl rfl rfl hS (fun w st => y_mv rfl) ?_
      refine vd_take rfl rfl rfl hS (fun w st => (by exact y_ia (k := j) rfl rfl underlying42 sizeOf78 rfl (by omega))) ?_
      refine vd_take rfl rfl rfl hS (fun w st => (by exact y_ldca (thL y ul ub dll dbb) rfl isAgg78 sizeOf78 rfl (fun i v hi => st.chg.cell (hd i v hi) (by simp)))) ?_
      refine vd_two rfl rfl ?_ ?_
      ·
       refine (e_al (l := [_, _, _, _]) st rfl rfl zeroValue78 rfl ?_)
       intro b6 w hb6 st
       refine vd_next (by exact st.drop (by repeat (first | exact sl0 | apply sl1 | apply sl2))) ?_; intro hS
       refine vd_do rfl (e_al (l := [_, _, _, _]) st rfl rfl zeroValue78 rfl ?_)
       intro b7 w hb7 st
       refine vd_next (by exact st.drop (by repeat (first | exact sl0 | apply sl1 | apply sl2))) ?_; intro hS
       refine vd_do rfl (e_sts (vs := [_, _, _, _]) st 1 rfl rfl rfl rfl rfl sizeOf78 rfl rfl (by first | (right; assumption) | (left; simp)) ?_)
       intro w st; dsimp only [setNth, wr] at st
       refine vd_next (by exact st.drop (by repeat (first | exact sl0 | apply sl1 | apply sl2))) ?_; intro hS
       refine vd_do rfl (e_sts (vs := [_, _, _, _]) st 0 rfl rfl rfl rfl rfl sizeOf78 rfl rfl (by first | (right; assumption) | (left; simp)) ?_)
       intro w st; dsimp only [setNth, wr] at st
       refine vd_next (by exact st.drop (by repeat (first | exact sl0 | apply sl1 | apply sl2))) ?_; intro hS
       refine vd_end ?_
       refine vq_meet (b6, b7) ⟨rfl, rfl, rfl, rfl, rfl, rfl, trivial⟩ (st.pick [2, 3, 1, 0] rfl (by decide)) ?_
       ·
        trivial
      ·
       refine (e_al (l := [_, _, _, _]) st rfl rfl zeroValue78 rfl ?_)
       intro b7 w hb7 st
       refine vd_next (by exact st.drop (by repeat (first | exact sl0 | apply sl1 | apply sl2))) ?_; intro hS
       refine vd_do rfl (e_al (l := [_, _, _, _]) st rfl rfl zeroValue78 rfl ?_)
       intro b6 w hb6 st
       refine vd_next (by exact st.drop (by repeat (first | exact sl0 | apply sl1 | apply sl2))) ?_; intro hS
       refine vd_do rfl (e_sts (vs := [_, _, _, _]) st 0 rfl rfl rfl rfl rfl sizeOf78 rfl rfl (by first | (right; assumption) | (left; simp)) ?_)
       intro w st; dsimp only [setNth, wr] at st
       refine vd_next (by exact st.drop (by repeat (first | exact sl0 | apply sl1 | apply sl2))) ?_; intro hS
       refine vd_do rfl (e_sts (vs := [_, _, _, _]) st 1 rfl rfl rfl rfl rfl sizeOf78 rfl rfl (by first | (right; assumption) | (left; simp)) ?_)
       intro w st; dsimp only [setNth, wr] at st
       refine vd_next (by exact st.drop (by repeat (first | exact sl0 | apply sl1 | apply sl2))) ?_; intro hS
       refine vd_end ?_
       refine vq_meet (b6, b7) ⟨rfl, rfl, rfl, rfl, rfl, rfl, trivial⟩ (st.pick [2, 3, 0, 1] rfl (by decide)) ?_
       ·
        trivial
     ·
      clear st
      rintro ⟨b6, b7⟩ w - st
      dsimp only at *
      refine vc_seq (vc_region ?_)
      refine vc_y rfl rfl (y_fa0 rfl underlying78 rfl rfl sizeOf9 rfl) ?_
      refine vc_y rfl rfl ((by exact y_ld st 2 rfl isAgg9 rfl rfl)) ?_
      refine vc_y rfl rfl (y_fa0 rfl underlying78 rfl rfl sizeOf9 rfl) ?_
      refine vc_y rfl rfl ((by exact y_ld st 3 rfl isAgg9 rfl rfl)) ?_
      refine vc_y rfl rfl (y_nes rfl rfl) ?_
      refine vc_e (e_mvb rfl rfl rfl ?_ ?_)
      ·
       intro hg52
       try simp only [dn] at hg52
       iterate 6 refine vc_e (e_skip rfl rfl ?_)
       refine vc_y rfl rfl (y_pickt rfl rfl) ?_
       refine vc_y rfl rfl (y_mv rfl) ?_
       iterate 6 refine vc_e (e_skip rfl rfl ?_)
       refine vc_y rfl rfl (y_pickt rfl rfl) ?_
       refine vc_end (vq_then (vc_keep [(2, _), (3, _), (33, _), (34, _), (67, _)] ⟨rfl, rfl, rfl, rfl, rfl, trivial⟩ ?_))
       refine vc_ift rfl ?_
       refine vc_seq (vc_region ?_)
       refine vc_y rfl rfl (y_as rfl) ?_
       refine vc_end (vq_then (vc_keep [(4, _)] ⟨rfl, trivial⟩ (vc_ret (vq_block_ret (vq_then_ret (vq_then_ret (vq_block_ret (vq_then_ret ?_))))))))
       refine vq_ret1 st (.inl rfl) results24 (.tmp rfl) ?_
       refine ⟨_, rfl, ?_⟩
       refine ⟨?_, st.chg⟩
       clear st
       unfold sameP
       first
        | (rw [‹zipA sameD p.shared q.shared = false›]; simp; done)
        | (rw [‹zipA sameD p.locks q.locks = false›]; simp; done)
        | (rw [zipA_len (f := sameT) (by omega)]; simp; done)
        | (rw [zipA_no (f := sameT) hx hy (by unfold sameT; simp_all)]; simp; done)
        | (rw [‹zipA sameD p.shared q.shared = true›, ‹zipA sameD p.locks q.locks = true›, zipA_yes (by omega) fun i x y hi h1 h2 => hall i x y (by omega) h1 h2]; rfl)
      ·
       intro hg52
       try simp only [dn] at hg52
       refine vc_y rfl rfl ((by exact y_faz (k := 1) rfl underlying78 rfl rfl sizeOf41 rfl)) ?_
       refine vc_y rfl rfl ((by exact y_ld st 2 rfl isAgg41 rfl rfl)) ?_
       refine vc_y rfl rfl ((by exact y_faz (k := 1) rfl underlying78 rfl rfl sizeOf41 rfl)) ?_
       refine vc_y rfl rfl ((by exact y_ld st 3 rfl isAgg41 rfl rfl)) ?_
       refine vc_e (e_call [_, _] rfl rfl call53 rfl (rdeclsS_any x.locals y.locals _ _ _ _ _ (RowC.kept htl (Same.of_nil st.chg)) (RowC.kept hul (Same.of_nil st.chg)) (by have := hkx.1.1; omega)) ?_)
       rintro _ w ⟨rfl, cw⟩
       replace st := st.call0 cw
       refine vc_y rfl rfl (y_not rfl) ?_
       refine vc_y rfl rfl (y_pickf rfl rfl) ?_
       refine vc_e (e_mvb rfl rfl rfl ?_ ?_)
       ·
        intro hg60
        try simp only [dn] at hg60
        iterate 6 refine vc_e (e_skip rfl rfl ?_)
        refine vc_y rfl rfl (y_pickt rfl rfl) ?_
        refine vc_end (vq_then (vc_keep [(2, _), (3, _), (33, _), (34, _), (67, _)] ⟨rfl, rfl, rfl, rfl, rfl, trivial⟩ ?_))
        refine vc_ift rfl ?_
        refine vc_seq (vc_region ?_)
        refine vc_y rfl rfl (y_as rfl) ?_
        refine vc_end (vq_then (vc_keep [(4, _)] ⟨rfl, trivial⟩ (vc_ret (vq_block_ret (vq_then_ret (vq_then_ret (vq_block_ret (vq_then_ret ?_))))))))
        refine vq_ret1 st (.inl rfl) results24 (.tmp rfl) ?_
        refine ⟨_, rfl, ?_⟩
        refine ⟨?_, st.chg⟩
        clear st
        unfold sameP
        first
         | (rw [‹zipA sameD p.shared q.shared = false›]; simp; done)
         | (rw [‹zipA sameD p.locks q.locks = false›]; simp; done)
         | (rw [zipA_len (f := sameT) (by omega)]; simp; done)
         | (rw [zipA_no (f := sameT) hx hy (by unfold sameT; simp_all)]; simp; done)
         | (rw [‹zipA sameD p.shared q.shared = true›, ‹zipA sameD p.locks q.locks = true›, zipA_yes (by omega) fun i x y hi h1 h2 => hall i x y (by omega) h1 h2]; rfl)
       ·
        intro hg60
        try simp only [dn] at hg60
        refine vc_y rfl rfl ((by exact y_faz (k := 2) rfl underlying78 rfl rfl sizeOf76 rfl)) ?_
        refine vc_y rfl rfl ((by exact y_ld st 2 rfl isAgg76 rfl rfl)) ?_
        refine vc_y rfl rfl ((by exact y_faz (k := 2) rfl underlying78 rfl rfl sizeOf76 rfl)) ?_
        refine vc_y rfl rfl ((by exact y_ld st 3 rfl isAgg76 rfl rfl)) ?_
        refine vc_e (e_call [_, _] rfl rfl call54 rfl (rstmtsS_any _ x.body rfl hkx.2.1 y.body _ _ _ _ _ (htb.kept (Same.of_nil st.chg)) (hub.kept (Same.of_nil st.chg))) ?_)
        rintro _ w ⟨rfl, cw⟩
        replace st := st.call0 cw
        refine vc_y rfl rfl (y_not rfl) ?_
        refine vc_y rfl rfl (y_pickf rfl rfl) ?_
        refine vc_end (vq_then (vc_keep [(2, _), (3, _), (33, _), (34, _), (67, _)] ⟨rfl, rfl, rfl, rfl, rfl, trivial⟩ ?_))
        refine vc_ifs rfl ?_ ?_
        ·
         intro hc67
         try simp only [dn] at hc67
         refine vc_seq (vc_region ?_)
         refine vc_y rfl rfl (y_as rfl) ?_
         refine vc_end (vq_then (vc_keep [(4, _)] ⟨rfl, trivial⟩ (vc_ret (vq_block_ret (vq_then_ret (vq_then_ret (vq_block_ret (vq_then_ret ?_))))))))
         refine vq_ret1 st (.inl rfl) results24 (.tmp rfl) ?_
         refine ⟨_, rfl, ?_⟩
         refine ⟨?_, st.chg⟩
         clear st
         unfold sameP
         first
          | (rw [‹zipA sameD p.shared q.shared = false›]; simp; done)
          | (rw [‹zipA sameD p.locks q.locks = false›]; simp; done)
          | (rw [zipA_len (f := sameT) (by omega)]; simp; done)
          | (rw [zipA_no (f := sameT) hx hy (by unfold sameT; simp_all)]; simp; done)
          | (rw [‹zipA sameD p.shared q.shared = true›, ‹zipA sameD p.locks q.locks = true›, zipA_yes (by omega) fun i x y hi h1 h2 => hall i x y (by omega) h1 h2]; rfl)
        ·
         intro hc67
         try simp only [dn] at hc67
         refine vc_code_skip (vq_block (vq_then (vc_keep [(2, _), (3, _), (33, _), (34, _)] ⟨rfl, rfl, rfl, rfl, trivial⟩ (vc_region ?_))))
         refine vc_y rfl rfl (y_add rfl rfl (by omega : _ = ((j + 1 : Nat) : Int)) (by omega) (by omega)) ?_
         refine vc_y rfl rfl (y_mv rfl) ?_
         refine vc_end ?_
         refine vq_again (j + 1)  ⟨rfl, rfl, rfl, rfl, trivial⟩ (st.pick [0, 1] rfl (by decide)) ?_ ?_
         ·
          exact ⟨by omega, fun i x' y' hi h1 h2 => by
            rcases (by omega : i < j ∨ i = j) with h | rfl
            · exact hall i x' y' h h1 h2
            · rw [hx] at h1; rw [hy] at h2; cases h1; cases h2; (unfold sameT; clear st; simp_all)⟩
         ·
          omega
    ·
     intro hc35
     try simp only [dn] at hc35
     refine vc_exit (vq_then_exit (vq_then_exit (vq_block_exit (vq_then (vc_keep [] trivial (vc_seq (vc_region ?_)))))))
     refine vc_y rfl rfl (y_as rfl) ?_
     refine vc_end (vq_then (vc_keep [(4, _)] ⟨rfl, trivial⟩ (vc_ret ?_)))
     refine vq_ret1 st (.inl rfl) results24 (.tmp rfl) ?_
     refine ⟨_, rfl, ?_⟩
     refine ⟨?_, st.chg⟩
     clear st
     unfold sameP
     first
      | (rw [‹zipA sameD p.shared q.shared = false›]; simp; done)
      | (rw [‹zipA sameD p.locks q.locks = false›]; simp; done)
      | (rw [zipA_len (f := sameT) (by omega)]; simp; done)
      | (rw [zipA_no (f := sameT) hx hy (by unfold sameT; simp_all)]; simp; done)
      | (rw [‹zipA sameD p.shared q.shared = true›, ‹zipA sameD p.locks q.locks = true›, zipA_yes (by omega) fun i x y hi h1 h2 => hall i x y (by omega) h1 h2]; rfl)

set_option maxHeartbeats 2000000 in
theorem rexactly_any (p q : Pg) (hok : OkP p) (os ol ot os' ol' ot' : Option Addr) (cs cl ct cs' cl' ct' : Nat) (w : World) (hSh : DcRow w S os p.shared) (hL : DcRow w S ol p.locks) (hT : ThRow w S ot p.threads) (hSh' : DcRow w S os' q.shared) (hL' : DcRow w S ol' q.locks) (hT' : ThRow w S ot' q.threads) :
    Ret Tryd.prog 23 [.agg (pgL p os ol ot cs cl ct).toArray, .agg (pgL q os' ol' ot' cs' cl' ct').toArray] w fun v w' => v = .bool (exactP p q) ∧ Chg [] w w' := by
 refine ret_of [_, _] func23 rfl ntmps23 rfl ?_
 have st := St.init w []
 obtain ⟨w0, rfl⟩ : ∃ w0, w0 = w := ⟨_, rfl⟩
 have hn1 := hok.1.1
 have hn2 := hok.2.1.1
 have hn3 := hok.2.2.1
 refine vc_seq (vc_region ?_)
 refine vc_e (e_bx (l := [_, _, _]) st rfl rfl rfl rfl ?_)
 intro b2 w hb2 st
 refine vc_e (e_bx (l := [_, _, _]) st rfl rfl rfl rfl ?_)
 intro b3 w hb3 st
 refine vc_y rfl rfl (y_as rfl) ?_
 refine vc_end (vq_then (vc_keep [(2, _), (3, _)] ⟨rfl, rfl, trivial⟩ (vc_seq (vc_seq (vc_region ?_)))))
 refine vc_y rfl rfl ((by exact y_lda (vs := [_, _, _]) st 1 rfl isAgg44 sizeOf44 rfl rfl)) ?_
 refine vc_y rfl rfl ((by exact y_lda (vs := [_, _, _]) st 0 rfl isAgg44 sizeOf44 rfl rfl)) ?_
 refine vc_e (e_call [_, _] rfl rfl call24 rfl (rsamePg_any p q hok _ _ _ _ _ _ _ _ _ _ _ _ _ (RowC.kept hSh (Same.of_nil st.chg)) (RowC.kept hL (Same.of_nil st.chg)) (hT.kept (Same.of_nil st.chg)) (RowC.kept hSh' (Same.of_nil st.chg)) (RowC.kept hL' (Same.of_nil st.chg)) (hT'.kept (Same.of_nil st.chg))) ?_)
 rintro _ w ⟨rfl, cw⟩
 replace st := st.call0 cw
 refine vc_y rfl rfl (y_not rfl) ?_
 refine vc_e (e_mvb rfl rfl rfl ?_ ?_)
 ·
  intro hg12
  try simp only [dn] at hg12
  iterate 6 refine vc_e (e_skip rfl rfl ?_)
  refine vc_y rfl rfl (y_pickt rfl rfl) ?_
  refine vc_y rfl rfl (y_mv rfl) ?_
  iterate 6 refine vc_e (e_skip rfl rfl ?_)
  refine vc_y rfl rfl (y_pickt rfl rfl) ?_
  refine vc_end (vq_then (vc_keep [(2, _), (3, _), (27, _)] ⟨rfl, rfl, rfl, trivial⟩ ?_))
  refine vc_ift rfl ?_
  refine vc_seq (vc_region ?_)
  refine vc_y rfl rfl (y_as rfl) ?_
  refine vc_end (vq_then (vc_keep [(4, _)] ⟨rfl, trivial⟩ (vc_ret (vq_then_ret ?_))))
  refine vq_ret1 st (.inl rfl) results23 (.tmp rfl) ?_
  refine ⟨_, rfl, ?_⟩
  refine ⟨?_, st.chg⟩
  clear st
  unfold exactP
  first
   | (rw [‹sameP p q = false›]; simp; done)
   | (rw [‹zipA eqD p.shared q.shared = false›]; simp; done)
   | (rw [‹zipA eqD p.locks q.locks = false›]; simp; done)
   | (rw [zipA_no (f := exT) hx hy (by unfold exT; simp_all)]; simp; done)
   | (rw [‹sameP p q = true›, ‹zipA eqD p.shared q.shared = true›, ‹zipA eqD p.locks q.locks = true›, zipA_yes hlen fun i x y hi h1 h2 => hall i x y (by omega) h1 h2]; rfl)
 ·
  intro hg12
  try simp only [dn] at hg12
  refine vc_y rfl rfl (y_fa0 rfl underlying44 rfl rfl sizeOf41 rfl) ?_
  refine vc_y rfl rfl ((by exact y_ld st 1 rfl isAgg41 rfl rfl)) ?_
  refine vc_y rfl rfl (y_fa0 rfl underlying44 rfl rfl sizeOf41 rfl) ?_
  refine vc_y rfl rfl ((by exact y_ld st 0 rfl isAgg41 rfl rfl)) ?_
  refine vc_e (e_call [_, _] rfl rfl call51 rfl (rdeclared_any p.shared q.shared _ _ _ _ _ (RowC.kept hSh (Same.of_nil st.chg)) (RowC.kept hSh' (Same.of_nil st.chg)) (by omega)) ?_)
  rintro _ w ⟨rfl, cw⟩
  replace st := st.call0 cw
  refine vc_y rfl rfl (y_not rfl) ?_
  refine vc_y rfl rfl (y_pickf rfl rfl) ?_
  refine vc_e (e_mvb rfl rfl rfl ?_ ?_)
  ·
   intro hg20
   try simp only [dn] at hg20
   iterate 6 refine vc_e (e_skip rfl rfl ?_)
   refine vc_y rfl rfl (y_pickt rfl rfl) ?_
   refine vc_end (vq_then (vc_keep [(2, _), (3, _), (27, _)] ⟨rfl, rfl, rfl, trivial⟩ ?_))
   refine vc_ift rfl ?_
   refine vc_seq (vc_region ?_)
   refine vc_y rfl rfl (y_as rfl) ?_
   refine vc_end (vq_then (vc_keep [(4, _)] ⟨rfl, trivial⟩ (vc_ret (vq_then_ret ?_))))
   refine vq_ret1 st (.inl rfl) results23 (.tmp rfl) ?_
   refine ⟨_, rfl, ?_⟩
   refine ⟨?_, st.chg⟩
   clear st
   unfold exactP
   first
    | (rw [‹sameP p q = false›]; simp; done)
    | (rw [‹zipA eqD p.shared q.shared = false›]; simp; done)
    | (rw [‹zipA eqD p.locks q.locks = false›]; simp; done)
    | (rw [zipA_no (f := exT) hx hy (by unfold exT; simp_all)]; simp; done)
    | (rw [‹sameP p q = true›, ‹zipA eqD p.shared q.shared = true›, ‹zipA eqD p.locks q.locks = true›, zipA_yes hlen fun i x y hi h1 h2 => hall i x y (by omega) h1 h2]; rfl)
  ·
   intro hg20
   try simp only [dn] at hg20
   refine vc_y rfl rfl ((by exact y_faz (k := 1) rfl underlying44 rfl rfl sizeOf41 rfl)) ?_
   refine vc_y rfl rfl ((by exact y_ld st 1 rfl isAgg41 rfl rfl)) ?_
   refine vc_y rfl rfl ((by exact y_faz (k := 1) rfl underlying44 rfl rfl sizeOf41 rfl)) ?_
   refine vc_y rfl rfl ((by exact y_ld st 0 rfl isAgg41 rfl rfl)) ?_
   refine vc_e (e_call [_, _] rfl rfl call51 rfl (rdeclared_any p.locks q.locks _ _ _ _ _ (RowC.kept hL (Same.of_nil st.chg)) (RowC.kept hL' (Same.of_nil st.chg)) (by omega)) ?_)
   rintro _ w ⟨rfl, cw⟩
   replace st := st.call0 cw
   refine vc_y rfl rfl (y_not rfl) ?_
   refine vc_y rfl rfl (y_pickf rfl rfl) ?_
   refine vc_end (vq_then (vc_keep [(2, _), (3, _), (27, _)] ⟨rfl, rfl, rfl, trivial⟩ ?_))
   refine vc_ifs rfl ?_ ?_
   ·
    intro hc27
    try simp only [dn] at hc27
    refine vc_seq (vc_region ?_)
    refine vc_y rfl rfl (y_as rfl) ?_
    refine vc_end (vq_then (vc_keep [(4, _)] ⟨rfl, trivial⟩ (vc_ret (vq_then_ret ?_))))
    refine vq_ret1 st (.inl rfl) results23 (.tmp rfl) ?_
    refine ⟨_, rfl, ?_⟩
    refine ⟨?_, st.chg⟩
    clear st
    unfold exactP
    first
     | (rw [‹sameP p q = false›]; simp; done)
     | (rw [‹zipA eqD p.shared q.shared = false›]; simp; done)
     | (rw [‹zipA eqD p.locks q.locks = false›]; simp; done)
     | (rw [zipA_no (f := exT) hx hy (by unfold exT; simp_all)]; simp; done)
     | (rw [‹sameP p q = true›, ‹zipA eqD p.shared q.shared = true›, ‹zipA eqD p.locks q.locks = true›, zipA_yes hlen fun i x y hi h1 h2 => hall i x y (by omega) h1 h2]; rfl)
   ·
    intro hc27
    try simp only [dn] at hc27
    have hsp : sameP p q = true := by assumption
    have hlen := sameP_len hsp
    refine vc_code_skip (vq_then (vc_keep [(2, _), (3, _)] ⟨rfl, rfl, trivial⟩ (vc_seq (vc_seq (vc_region ?_)))))
    refine vc_y rfl rfl ((by exact y_faz (k := 2) rfl underlying44 rfl rfl sizeOf42 rfl)) ?_
    refine vc_y rfl rfl ((by exact y_ld st 1 rfl isAgg42 rfl rfl)) ?_
    refine vc_y rfl rfl (y_lensl rfl underlying42) ?_
    refine vc_y rfl rfl (y_mv rfl) ?_
    refine vc_end (vq_then (vc_keep [(2, _), (3, _), (30, _), (31, _)] ⟨rfl, rfl, rfl, rfl, trivial⟩ (vc_block ?_)))
    refine vc_loop (w0 := w0) (M := []) (fun (j : Nat) => [(2, .pointer (some ⟨b2, 0, none⟩)), (3, .pointer (some ⟨b3, 0, none⟩)), (30, .int .i64 (p.threads.length : Int)), (31, .int .i64 (j : Int))]) (fun _ => [.blk b2 (.cells (pgL p os ol ot cs cl ct).toArray 44 (0, 0)), .blk b3 (.cells (pgL q os' ol' ot' cs' cl' ct').toArray 44 (0, 0))]) (fun j _ => j ≤ p.threads.length ∧ ∀ (i : Nat) x y, i < j → p.threads[i]? = some x → q.threads[i]? = some y → exT x y = true) (fun j => p.threads.length - j) 0 ⟨rfl, rfl, rfl, rfl, trivial⟩ (st.pick [1, 0] rfl (by decide)) ⟨by omega, fun i x y h => by omega⟩ ?_
    clear st
    rintro j w ⟨hj, hall⟩ st
    refine vc_seq (vc_region ?_)
    refine vc_y rfl rfl (y_lss rfl rfl) ?_
    refine vc_end (vq_then (vc_keep [(2, _), (3, _), (30, _), (31, _), (32, _)] ⟨rfl, rfl, rfl, rfl, rfl, trivial⟩ (vc_seq ?_)))
    refine vc_ifs rfl ?_ ?_
    ·
     intro hc32
     try simp only [dn] at hc32
     have stK := st
     obtain ⟨x, hx⟩ : ∃ x, p.threads[j]? = some x := ⟨_, List.getElem?_eq_getElem (by omega)⟩
     obtain ⟨y, hy⟩ : ∃ y, q.threads[j]? = some y := ⟨_, List.getElem?_eq_getElem (by omega)⟩
     obtain ⟨gb, go, rfl, hgS, hgl, hg⟩ := ThRow.at hT (by omega)
     obtain ⟨fb, fo, rfl, hfS, hfl, hf⟩ := ThRow.at hT' (by omega)
     obtain ⟨tl, tb, cll, cbb, htl, htb, hc⟩ := hg j x hx
     obtain ⟨ul, ub, dll, dbb, hul, hub, hd⟩ := hf j y hy
     have hkx := hok.2.2.2 j x hx
     have st := stK
     clear stK
     refine vc_code_skip (vq_then (vc_keep [(2, _), (3, _), (30, _), (31, _)] ⟨rfl, rfl, rfl, rfl, trivial⟩ (vc_seq (vc_block (vc_seq (vc_region ?_))))))
     refine vc_y rfl rfl (y_mv rfl) ?_
     refine vc_y rfl rfl (y_as rfl) ?_
     refine vc_end (vq_then (vc_keep [(2, _), (3, _), (5, _), (30, _), (31, _)] ⟨rfl, rfl, rfl, rfl, rfl, trivial⟩ ?_))
     refine vc_cut (w0 := w0) (M := []) (fun (z : Nat × Nat) => [(2, .pointer (some ⟨b2, 0, none⟩)), (3, .pointer (some ⟨b3, 0, none⟩)), (6, .pointer (some ⟨z.1, 0, none⟩)), (7, .pointer (some ⟨z.2, 0, none⟩)), (30, .int .i64 (p.threads.length : Int)), (31, .int .i64 (j : Int))]) (fun z => [.blk b2 (.cells (pgL p os ol (some ⟨gb, go, none⟩) cs cl ct).toArray 44 (0, 0)), .blk b3 (.cells (pgL q os' ol' (some ⟨fb, fo, none⟩) cs' cl' ct').toArray 44 (0, 0)), .blk z.1 (.cells (thL x tl tb cll cbb).toArray 78 (0, 0)), .blk z.2 (.cells (thL y ul ub dll dbb).toArray 78 (0, 0))]) (fun _ _ => True) ?_ ?_
     ·
      refine vd_draw Tryd.mixed (.take 0 (.take 1 (.take 2 (.take 3 (.take 4 (.take 5 (.take 6 (.take 7 (.take 8 (.take 9 (.two 10 11 (.one 11 (.one 12 (.one 13 .done))) (.one 10 (.one 12 (.one 13 .done)))))))))))))) (fun w => St _ _ _ w) st (by kernel_rfl) (by repeat (first | exact okQ_body | refine okQ_then ?_ | refine okQ_block ?_)) rfl (by kernel_rfl) ?_
      intro w cd; replace st := st.call0 cd; clear cd
      have hS := st
      refine vd_take rfl rfl rfl hS (fun w st => (by exact y_faz (k := 2) rfl underlying44 rfl rfl sizeOf42 rfl)) ?_
      refine vd_take rfl rfl rfl hS (fun w st => (by exact y_ld st 0 rfl isAgg42 rfl rfl)) ?_
      refine vd_take rfl rfl rfl hS (fun w st => y_mv rfl) ?_
      refine vd_take rfl rfl rfl hS (fun w st => (by exact y_ia (k := j) rfl rfl underlying42 sizeOf78 rfl (by omega))) ?_
      refine vd_take rfl rfl rfl hS (fun w st => (by exact y_ldca (thL x tl tb cll cbb) rfl isAgg78 sizeOf78 rfl (fun i v hi => st.chg.cell (hc i v hi) (by simp)))) ?_
      refine vd_take rfl rfl rfl hS (fun w st => (by exact y_faz (k := 2) rfl underlying44 rfl rfl sizeOf42 rfl)) ?_
      refine vd_take rfl rfl rfl hS (fun w st => (by exact y_ld st 1 rfl isAgg42 rfl rfl)) ?_
      refine vd_take rfl rfl rfl hS (fun w st => y_mv rfl) ?_
      refine vd_take rfl rfl rfl hS (fun w st => (by exact y_ia (k := j) rfl rfl underlying42 sizeOf78 rfl (by omega))) ?_
      refine vd_take rfl rfl rfl hS (fun w st => (by exact y_ldca (thL y ul ub dll dbb) rfl isAgg78 sizeOf78 rfl (fun i v hi => st.chg.cell (hd i v hi) (by simp)))) ?_
      refine vd_two rfl rfl ?_ ?_
      ·
       refine (e_al (l := [_, _, _, _]) st rfl rfl zeroValue78 rfl ?_)
       intro b6 w hb6 st
       refine vd_next (by exact st.drop (by repeat (first | exact sl0 | apply sl1 | apply sl2))) ?_; intro hS
       refine vd_do rfl (e_al (l := [_, _, _, _]) st rfl rfl zeroValue78 rfl ?_)
       intro b7 w hb7 st
       refine vd_next (by exact st.drop (by repeat (first | exact sl0 | apply sl1 | apply sl2))) ?_; intro hS
       refine vd_do rfl (e_sts (vs := [_, _, _, _]) st 1 rfl rfl rfl rfl rfl sizeOf78 rfl rfl (by first | (right; assumption) | (left; simp)) ?_)
       intro w st; dsimp only [setNth, wr] at st
       refine vd_next (by exact st.drop (by repeat (first | exact sl0 | apply sl1 | apply sl2))) ?_; intro hS
       refine vd_do rfl (e_sts (vs := [_, _, _, _]) st 0 rfl rfl rfl rfl rfl sizeOf78 rfl rfl (by first | (right; assumption) | (left; simp)) ?_)
       intro w st; dsimp only [setNth, wr] at st
       refine vd_next (by exact st.drop (by repeat (first | exact sl0 | apply sl1 | apply sl2))) ?_; intro hS
       refine vd_end ?_
       refine vq_meet (b6, b7) ⟨rfl, rfl, rfl, rfl, rfl, rfl, trivial⟩ (st.pick [2, 3, 1, 0] rfl (by decide)) ?_
       ·
        trivial
      ·
       refine (e_al (l := [_, _, _, _]) st rfl rfl zeroValue78 rfl ?_)
       intro b7 w hb7 st
       refine vd_next (by exact st.drop (by repeat (first | exact sl0 | apply sl1 | apply sl2))) ?_; intro hS
       refine vd_do rfl (e_al (l := [_, _, _, _]) st rfl rfl zeroValue78 rfl ?_)
       intro b6 w hb6 st
       refine vd_next (by exact st.drop (by repeat (first | exact sl0 | apply sl1 | apply sl2))) ?_; intro hS
       refine vd_do rfl (e_sts (vs := [_, _, _, _]) st 0 rfl rfl rfl rfl rfl sizeOf78 rfl rfl (by first | (right; assumption) | (left; simp)) ?_)
       intro w st; dsimp only [setNth, wr] at st
       refine vd_next (by exact st.drop (by repeat (first | exact sl0 | apply sl1 | apply sl2))) ?_; intro hS
       refine vd_do rfl (e_sts (vs := [_, _, _, _]) st 1 rfl rfl rfl rfl rfl sizeOf78 rfl rfl (by first | (right; assumption) | (left; simp)) ?_)
       intro w st; dsimp only [setNth, wr] at st
       refine vd_next (by exact st.drop (by repeat (first | exact sl0 | apply sl1 | apply sl2))) ?_; intro hS
       refine vd_end ?_
       refine vq_meet (b6, b7) ⟨rfl, rfl, rfl, rfl, rfl, rfl, trivial⟩ (st.pick [2, 3, 0, 1] rfl (by decide)) ?_
       ·
        trivial
     ·
      clear st
      rintro ⟨b6, b7⟩ w - st
      dsimp only at *
      refine vc_seq (vc_region ?_)
      refine vc_y rfl rfl ((by exact y_faz (k := 3) rfl underlying78 rfl rfl sizeOf3 rfl)) ?_
      refine vc_y rfl rfl ((by exact y_ld st 2 rfl isAgg3 rfl rfl)) ?_
      refine vc_y rfl rfl ((by exact y_faz (k := 3) rfl underlying78 rfl rfl sizeOf3 rfl)) ?_
      refine vc_y rfl rfl ((by exact y_ld st 3 rfl isAgg3 rfl rfl)) ?_
      refine vc_y rfl rfl (y_nei rfl rfl) ?_
      refine vc_e (e_mvb rfl rfl rfl ?_ ?_)
      ·
       intro hg49
       try simp only [dn] at hg49
       iterate 6 refine vc_e (e_skip rfl rfl ?_)
       refine vc_y rfl rfl (y_pickt rfl rfl) ?_
       refine vc_y rfl rfl (y_mv rfl) ?_
       iterate 6 refine vc_e (e_skip rfl rfl ?_)
       refine vc_y rfl rfl (y_pickt rfl rfl) ?_
       refine vc_end (vq_then (vc_keep [(2, _), (3, _), (30, _), (31, _), (64, _)] ⟨rfl, rfl, rfl, rfl, rfl, trivial⟩ ?_))
       refine vc_ift rfl ?_
       refine vc_seq (vc_region ?_)
       refine vc_y rfl rfl (y_as rfl) ?_
       refine vc_end (vq_then (vc_keep [(4, _)] ⟨rfl, trivial⟩ (vc_ret (vq_block_ret (vq_then_ret (vq_then_ret (vq_block_ret (vq_then_ret ?_))))))))
       refine vq_ret1 st (.inl rfl) results23 (.tmp rfl) ?_
       refine ⟨_, rfl, ?_⟩
       refine ⟨?_, st.chg⟩
       clear st
       unfold exactP
       first
        | (rw [‹sameP p q = false›]; simp; done)
        | (rw [‹zipA eqD p.shared q.shared = false›]; simp; done)
        | (rw [‹zipA eqD p.locks q.locks = false›]; simp; done)
        | (rw [zipA_no (f := exT) hx hy (by unfold exT; simp_all)]; simp; done)
        | (rw [‹sameP p q = true›, ‹zipA eqD p.shared q.shared = true›, ‹zipA eqD p.locks q.locks = true›, zipA_yes hlen fun i x y hi h1 h2 => hall i x y (by omega) h1 h2]; rfl)
      ·
       intro hg49
       try simp only [dn] at hg49
       refine vc_y rfl rfl ((by exact y_faz (k := 1) rfl underlying78 rfl rfl sizeOf41 rfl)) ?_
       refine vc_y rfl rfl ((by exact y_ld st 2 rfl isAgg41 rfl rfl)) ?_
       refine vc_y rfl rfl ((by exact y_faz (k := 1) rfl underlying78 rfl rfl sizeOf41 rfl)) ?_
       refine vc_y rfl rfl ((by exact y_ld st 3 rfl isAgg41 rfl rfl)) ?_
       refine vc_e (e_call [_, _] rfl rfl call51 rfl (rdeclared_any x.locals y.locals _ _ _ _ _ (RowC.kept htl (Same.of_nil st.chg)) (RowC.kept hul (Same.of_nil st.chg)) (by have := hkx.1.1; omega)) ?_)
       rintro _ w ⟨rfl, cw⟩
       replace st := st.call0 cw
       refine vc_y rfl rfl (y_not rfl) ?_
       refine vc_y rfl rfl (y_pickf rfl rfl) ?_
       refine vc_e (e_mvb rfl rfl rfl ?_ ?_)
       ·
        intro hg57
        try simp only [dn] at hg57
        iterate 6 refine vc_e (e_skip rfl rfl ?_)
        refine vc_y rfl rfl (y_pickt rfl rfl) ?_
        refine vc_end (vq_then (vc_keep [(2, _), (3, _), (30, _), (31, _), (64, _)] ⟨rfl, rfl, rfl, rfl, rfl, trivial⟩ ?_))
        refine vc_ift rfl ?_
        refine vc_seq (vc_region ?_)
        refine vc_y rfl rfl (y_as rfl) ?_
        refine vc_end (vq_then (vc_keep [(4, _)] ⟨rfl, trivial⟩ (vc_ret (vq_block_ret (vq_then_ret (vq_then_ret (vq_block_ret (vq_then_ret ?_))))))))
        refine vq_ret1 st (.inl rfl) results23 (.tmp rfl) ?_
        refine ⟨_, rfl, ?_⟩
        refine ⟨?_, st.chg⟩
        clear st
        unfold exactP
        first
         | (rw [‹sameP p q = false›]; simp; done)
         | (rw [‹zipA eqD p.shared q.shared = false›]; simp; done)
         | (rw [‹zipA eqD p.locks q.locks = false›]; simp; done)
         | (rw [zipA_no (f := exT) hx hy (by unfold exT; simp_all)]; simp; done)
         | (rw [‹sameP p q = true›, ‹zipA eqD p.shared q.shared = true›, ‹zipA eqD p.locks q.locks = true›, zipA_yes hlen fun i x y hi h1 h2 => hall i x y (by omega) h1 h2]; rfl)
       ·
        intro hg57
        try simp only [dn] at hg57
        refine vc_y rfl rfl ((by exact y_faz (k := 2) rfl underlying78 rfl rfl sizeOf76 rfl)) ?_
        refine vc_y rfl rfl ((by exact y_ld st 2 rfl isAgg76 rfl rfl)) ?_
        refine vc_y rfl rfl ((by exact y_faz (k := 2) rfl underlying78 rfl rfl sizeOf76 rfl)) ?_
        refine vc_y rfl rfl ((by exact y_ld st 3 rfl isAgg76 rfl rfl)) ?_
        refine vc_e (e_call [_, _] rfl rfl call52 rfl (rplacesS_any _ x.body rfl hkx.2.1 y.body _ _ _ _ _ (htb.kept (Same.of_nil st.chg)) (hub.kept (Same.of_nil st.chg))) ?_)
        rintro _ w ⟨rfl, cw⟩
        replace st := st.call0 cw
        refine vc_y rfl rfl (y_not rfl) ?_
        refine vc_y rfl rfl (y_pickf rfl rfl) ?_
        refine vc_end (vq_then (vc_keep [(2, _), (3, _), (30, _), (31, _), (64, _)] ⟨rfl, rfl, rfl, rfl, rfl, trivial⟩ ?_))
        refine vc_ifs rfl ?_ ?_
        ·
         intro hc64
         try simp only [dn] at hc64
         refine vc_seq (vc_region ?_)
         refine vc_y rfl rfl (y_as rfl) ?_
         refine vc_end (vq_then (vc_keep [(4, _)] ⟨rfl, trivial⟩ (vc_ret (vq_block_ret (vq_then_ret (vq_then_ret (vq_block_ret (vq_then_ret ?_))))))))
         refine vq_ret1 st (.inl rfl) results23 (.tmp rfl) ?_
         refine ⟨_, rfl, ?_⟩
         refine ⟨?_, st.chg⟩
         clear st
         unfold exactP
         first
          | (rw [‹sameP p q = false›]; simp; done)
          | (rw [‹zipA eqD p.shared q.shared = false›]; simp; done)
          | (rw [‹zipA eqD p.locks q.locks = false›]; simp; done)
          | (rw [zipA_no (f := exT) hx hy (by unfold exT; simp_all)]; simp; done)
          | (rw [‹sameP p q = true›, ‹zipA eqD p.shared q.shared = true›, ‹zipA eqD p.locks q.locks = true›, zipA_yes hlen fun i x y hi h1 h2 => hall i x y (by omega) h1 h2]; rfl)
        ·
         intro hc64
         try simp only [dn] at hc64
         refine vc_code_skip (vq_block (vq_then (vc_keep [(2, _), (3, _), (30, _), (31, _)] ⟨rfl, rfl, rfl, rfl, trivial⟩ (vc_region ?_))))
         refine vc_y rfl rfl (y_add rfl rfl (by omega : _ = ((j + 1 : Nat) : Int)) (by omega) (by omega)) ?_
         refine vc_y rfl rfl (y_mv rfl) ?_
         refine vc_end ?_
         refine vq_again (j + 1)  ⟨rfl, rfl, rfl, rfl, trivial⟩ (st.pick [0, 1] rfl (by decide)) ?_ ?_
         ·
          exact ⟨by omega, fun i x' y' hi h1 h2 => by
            rcases (by omega : i < j ∨ i = j) with h | rfl
            · exact hall i x' y' h h1 h2
            · rw [hx] at h1; rw [hy] at h2; cases h1; cases h2; (unfold exT; clear st; simp_all)⟩
         ·
          omega
    ·
     intro hc32
     try simp only [dn] at hc32
     refine vc_exit (vq_then_exit (vq_then_exit (vq_block_exit (vq_then (vc_keep [] trivial (vc_seq (vc_region ?_)))))))
     refine vc_y rfl rfl (y_as rfl) ?_
     refine vc_end (vq_then (vc_keep [(4, _)] ⟨rfl, trivial⟩ (vc_ret ?_)))
     refine vq_ret1 st (.inl rfl) results23 (.tmp rfl) ?_
     refine ⟨_, rfl, ?_⟩
     refine ⟨?_, st.chg⟩
     clear st
     unfold exactP
     first
      | (rw [‹sameP p q = false›]; simp; done)
      | (rw [‹zipA eqD p.shared q.shared = false›]; simp; done)
      | (rw [‹zipA eqD p.locks q.locks = false›]; simp; done)
      | (rw [zipA_no (f := exT) hx hy (by unfold exT; simp_all)]; simp; done)
      | (rw [‹sameP p q = true›, ‹zipA eqD p.shared q.shared = true›, ‹zipA eqD p.locks q.locks = true›, zipA_yes hlen fun i x y hi h1 h2 => hall i x y (by omega) h1 h2]; rfl)

end
end Go.Proofs.YtggnfanphcaamaaDoor


namespace Go.Proofs.YtggnfanphcaamaaDoor
open Go.RowKit Sx LexS
set_option linter.unusedVariables false
set_option linter.unusedSimpArgs false
abbrev ExRQ := ExR 26
abbrev SmRQ := SmR 26 83
abbrev PgQ := PgS 26 83 80 78
theorem take_snoc {α : Type} {l : List α} {j : Nat} {x : α} (h : l[j]? = some x) : l.take (j + 1) = l.take j ++ [x] := by
  obtain ⟨hj, e⟩ := List.getElem?_eq_some_iff.1 h
  rw [List.take_succ_eq_append_getElem hj, e]

end Go.Proofs.YtggnfanphcaamaaDoor


namespace Go.Proofs.YtggnfanphcaamaaDoor
open Go.RowKit Sx LexS
set_option linter.unusedVariables false
set_option linter.unusedSimpArgs false
section
variable {n0 : Nat}

set_option maxHeartbeats 1000000 in
theorem pcopyE_any : ∀ (n : Nat) (es : List Ex), szo es = n → OkEs es → ∀ (oa : Option Addr) (cap : Nat) (w : World), ExRow w (· < n0) oa es → n0 ≤ w.heap.size →
    Ret Tryd.prog 79 [.slice oa es.length cap] w fun v w' => ∃ oq cq Sq, v = .slice oq es.length cq ∧ ExRQ w' oq cq es Sq ∧ Nw w.heap.size Sq ∧ Chg [] w w' := by
  intro n
  refine Nat.strongRecOn n fun n ih => ?_
  intro es hn hok oa cap w hr hn0
  subst hn
  have hle := hok.1
  refine ret_of [_] Tryd.func79 rfl Tryd.ntmps79 rfl ?_
  have st := St.init w []
  obtain ⟨w0, rfl⟩ : ∃ w0, w0 = w := ⟨_, rfl⟩
  replace st := St.pushR (r := .tree [] (fun w => ExSs 26 w [] [] [])) st (Chg.refl _ _) (holds_of (by simp [ExSs]) (by simp) (fun a b h hk => h.kept hk)) (by simp [Res.at?])
  replace st := st.ownNil 26 6
  refine vc_seq ?_
  refine vc_region ?_
  refine vc_y rfl rfl (y_as rfl) ?_
  refine vc_end ?_
  refine vq_then ?_
  refine vc_keep [(0, _)] ⟨rfl, trivial⟩ ?_
  refine vc_seq ?_
  refine vc_region ?_
  refine vc_y rfl rfl (y_as rfl) ?_
  refine vc_end ?_
  refine vq_then ?_
  refine vc_keep [(0, _), (3, _)] ⟨rfl, rfl, trivial⟩ ?_
  refine vc_seq ?_
  refine vc_seq ?_
  refine vc_region ?_
  refine vc_y rfl rfl (y_mv rfl) ?_
  refine vc_y rfl rfl (y_lensl rfl Tryd.underlying24) ?_
  refine vc_y rfl rfl (y_mv rfl) ?_
  refine vc_end ?_
  refine vq_then ?_
  refine vc_keep [(3, _), (6, _), (7, _), (8, _)] ⟨rfl, rfl, rfl, rfl, trivial⟩ ?_
  refine vc_block ?_
  refine vc_loop (w0 := w0) (M := []) (fun (y : Nat × Option Addr × Nat × List Value × List Nat) => [(3, .slice y.2.1 y.1 y.2.2.1), (6, .slice oa es.length cap), (7, .int .i64 (es.length : Int)), (8, .int .i64 (y.1 : Int))]) (fun y => [.own (.slice y.2.1 y.1 y.2.2.1) 26 6 y.1 y.2.2.2.1, .tree y.2.2.2.2 (fun w => ExSs 26 w (es.take y.1) y.2.2.2.1 y.2.2.2.2)]) (fun y _ => y.1 ≤ es.length ∧ Nw w0.heap.size y.2.2.2.2) (fun y => es.length - y.1) (0, none, 0, [], []) ⟨rfl, rfl, rfl, rfl, trivial⟩ (by simpa using st) ⟨by simp, Nw.nil⟩ ?_
  clear st
  rintro ⟨j, oj, cj, xs, S⟩ w ⟨hj, hSS⟩ st
  dsimp only at *
  refine vc_seq ?_
  refine vc_region ?_
  refine vc_y rfl rfl (y_lss rfl rfl) ?_
  refine vc_end ?_
  refine vq_then ?_
  refine vc_keep [(3, _), (6, _), (7, _), (8, _), (9, _)] ⟨rfl, rfl, rfl, rfl, rfl, trivial⟩ ?_
  refine vc_seq ?_
  refine vc_ifs rfl ?_ ?_
  · intro hc9
    try simp only [dn] at hc9
    have stK := st
    obtain ⟨e, hej⟩ : ∃ e, es[j]? = some e := ⟨_, List.getElem?_eq_getElem (by omega)⟩
    obtain ⟨gb, go, rfl, hgS, hgl, hg⟩ := ExRow.at hr (by omega)
    obtain ⟨o0, c0, hV0, hr0, hc0⟩ := hg j e hej
    have hke := hok.2 j e hej
    have hz := mem_size hej
    have hz2 : szo e.kids < szo es := by have : szo e.kids < szo e := by cases e; exact ex_size
                                         omega
    have st := stK
    clear stK
    refine vc_code_skip ?_
    refine vq_then ?_
    refine vc_keep [(3, _), (6, _), (7, _), (8, _)] ⟨rfl, rfl, rfl, rfl, trivial⟩ ?_
    refine vc_seq ?_
    refine vc_block ?_
    refine vc_seq ?_
    refine vc_region ?_
    refine vc_y rfl rfl ((by exact y_ia (k := j) rfl rfl Tryd.underlying24 Tryd.sizeOf26 rfl (by omega))) ?_
    refine vc_y rfl rfl ((by exact y_ldca (exL e o0 c0) rfl Tryd.isAgg26 Tryd.sizeOf26 rfl (fun i v hi => st.chg.cell (hc0 i v hi) (by simp)))) ?_
    refine vc_e (e_al (l := [_, _, _, _, _, _]) st rfl rfl Tryd.zeroValue26 rfl ?_)
    intro b5 w hb5 st
    refine vc_e (e_sts (vs := [_, _, _, _, _, _]) st 0 rfl rfl rfl rfl rfl Tryd.sizeOf26 rfl rfl (by first | (right; assumption) | (left; simp)) ?_)
    intro w st; dsimp only [setNth, wr] at st
    refine vc_end ?_
    refine vq_then ?_
    refine vc_keep [(3, _), (5, _), (6, _), (7, _), (8, _)] ⟨rfl, rfl, rfl, rfl, rfl, trivial⟩ ?_
    refine vc_seq ?_
    refine vc_region ?_
    refine vc_y rfl rfl ((by exact y_faz (k := 4) rfl Tryd.underlying26 rfl rfl Tryd.sizeOf24 rfl)) ?_
    refine vc_y rfl rfl ((by exact y_ld st 0 rfl Tryd.isAgg24 rfl rfl)) ?_
    refine vc_e (e_call [_] rfl rfl Tryd.call79 rfl (ih _ hz2 e.kids rfl hke.kids _ _ _ (hr0.kept (Same.of_nil st.chg)) (Nat.le_trans hn0 st.chg.size)) ?_)
    rintro _ w ⟨oq, cq, Sq, rfl, hQ, hN, cw⟩
    have hN9 := hN.le st.chg.size
    replace st := St.pushR (r := .tree Sq (fun w => ExRQ w oq cq e.kids Sq)) st cw (holds_of hQ hQ.lt (fun a b h hk => h.kept hk)) hN.2
    refine vc_y rfl rfl ((by exact y_faz (k := 4) rfl Tryd.underlying26 rfl rfl Tryd.sizeOf24 rfl)) ?_
    refine vc_e (e_st st 1 rfl rfl rfl rfl Tryd.sizeOf24 rfl rfl (by first | (right; assumption) | (left; simp)) ?_)
    intro w st; dsimp only [setNth, wr] at st
    refine vc_end ?_
    refine vq_then ?_
    refine vc_keep [(3, _), (5, _), (6, _), (7, _), (8, _)] ⟨rfl, rfl, rfl, rfl, rfl, trivial⟩ ?_
    refine vc_region ?_
    refine vc_y rfl rfl (y_mv rfl) ?_
    refine vc_y rfl rfl ((by exact y_lda (vs := [_, _, _, _, _, _]) st 1 rfl Tryd.isAgg26 Tryd.sizeOf26 rfl rfl)) ?_
    refine vc_e (e_bs1 (l := [_, _, _, _, _, _]) st rfl rfl rfl rfl Tryd.underlying24 Tryd.sizeOf26 rfl rfl rfl Tryd.zeroValue26 ?_)
    intro b18 w hb18 st
    refine vc_e (e_app (bytes := 64) st 3 0 rfl rfl rfl rfl rfl rfl Tryd.underlying24 Tryd.info26 rfl rfl rfl rfl rfl (by simp) rfl rfl (by unfold maxLen; omega) (by omega) ?_)
    intro oaQ capQ w st; dsimp only [setNth] at st
    refine vc_y rfl rfl (y_as rfl) ?_
    refine vc_end ?_
    refine vq_block ?_
    refine vq_then ?_
    refine vc_keep [(3, _), (6, _), (7, _), (8, _)] ⟨rfl, rfl, rfl, rfl, trivial⟩ ?_
    refine vc_region ?_
    have hne : ∀ b ∈ S, b ∉ Sq := fun b hb => st.ne (i := 4) (j := 1) (by decide) rfl rfl b hb
    have stN := st.pick [4, 1, 3] rfl (by decide)
    have h1 := (stN.res (i := 0) rfl).1
    have h2 := (stN.res (i := 1) rfl).1
    have h3 : ExSs 26 w (es.take (j + 1)) (xs ++ exL e oq cq) (S ++ Sq) := by rw [take_snoc hej]; exact ExSs.snoc h1 (ExS_iff.2 ⟨oq, cq, rfl, h2⟩)
    replace stN := (stN.join (q := .tree (S ++ Sq) fun w => ExSs 26 w (es.take (j + 1)) (xs ++ exL e oq cq) (S ++ Sq)) (fun k hk => List.mem_append.1 hk) (holds_of h3 h3.lt (fun a b h hk => h.kept hk))).pick [1, 0] rfl (by decide)
    refine vc_y rfl rfl (y_add rfl rfl (by omega : _ = ((j + 1 : Nat) : Int)) (by omega) (by omega)) ?_
    refine vc_y rfl rfl (y_mv rfl) ?_
    refine vc_end ?_
    refine vq_again (j + 1, oaQ, capQ, xs ++ exL e oq cq, S ++ Sq)  ⟨rfl, rfl, rfl, rfl, trivial⟩ stN ?_ ?_
    · exact ⟨by dsimp only; omega, hSS.app hN9 hne⟩
    · dsimp only; omega
  · intro hc9
    try simp only [dn] at hc9
    refine vc_exit ?_
    refine vq_then_exit ?_
    refine vq_then_exit ?_
    refine vq_block_exit ?_
    refine vq_then ?_
    refine vc_keep [(3, _)] ⟨rfl, trivial⟩ ?_
    refine vc_seq ?_
    refine vc_region ?_
    refine vc_y rfl rfl (y_mv rfl) ?_
    refine vc_y rfl rfl (y_as rfl) ?_
    refine vc_end ?_
    refine vq_then ?_
    refine vc_keep [(2, _)] ⟨rfl, trivial⟩ ?_
    refine vc_ret ?_
    refine vq_ret1 st (.inl rfl) Tryd.results79 (.tmp rfl) ?_
    refine ⟨_, rfl, ?_⟩
    obtain rfl : j = es.length := by omega
    rw [List.take_length] at st
    obtain ⟨h1, h2⟩ := st.ownNw (i := 0) rfl
    have h3 := (st.res (i := 1) rfl).1
    exact ⟨oj, cj, obk oj ++ S, rfl, ⟨xs, S, h1, rfl, h3⟩, h2.app hSS (fun b hb => st.ne (i := 0) (j := 1) (by decide) rfl rfl b (by simpa [Res.at?, obk_own] using hb)), st.chg⟩

set_option maxHeartbeats 1000000 in
theorem pcopyS_any : ∀ (n : Nat) (es : List Sm), szo es = n → OkSs es → ∀ (oa : Option Addr) (cap : Nat) (w : World), SmRow w (· < n0) oa es → n0 ≤ w.heap.size →
    Ret Tryd.prog 47 [.slice oa es.length cap] w fun v w' => ∃ oq cq Sq, v = .slice oq es.length cq ∧ SmRQ w' oq cq es Sq ∧ Nw w.heap.size Sq ∧ Chg [] w w' := by
  intro n
  refine Nat.strongRecOn n fun n ih => ?_
  intro es hn hok oa cap w hr hn0
  subst hn
  have hle := hok.1
  refine ret_of [_] Tryd.func47 rfl Tryd.ntmps47 rfl ?_
  have st := St.init w []
  obtain ⟨w0, rfl⟩ : ∃ w0, w0 = w := ⟨_, rfl⟩
  replace st := St.pushR (r := .tree [] (fun w => SmSs 26 83 w [] [] [])) st (Chg.refl _ _) (holds_of (by simp [SmSs]) (by simp) (fun a b h hk => h.kept hk)) (by simp [Res.at?])
  replace st := st.ownNil 83 7
  refine vc_seq ?_
  refine vc_region ?_
  refine vc_y rfl rfl (y_as rfl) ?_
  refine vc_end ?_
  refine vq_then ?_
  refine vc_keep [(0, _)] ⟨rfl, trivial⟩ ?_
  refine vc_seq ?_
  refine vc_region ?_
  refine vc_y rfl rfl (y_as rfl) ?_
  refine vc_end ?_
  refine vq_then ?_
  refine vc_keep [(0, _), (3, _)] ⟨rfl, rfl, trivial⟩ ?_
  refine vc_seq ?_
  refine vc_seq ?_
  refine vc_region ?_
  refine vc_y rfl rfl (y_mv rfl) ?_
  refine vc_y rfl rfl (y_lensl rfl Tryd.underlying76) ?_
  refine vc_y rfl rfl (y_mv rfl) ?_
  refine vc_end ?_
  refine vq_then ?_
  refine vc_keep [(3, _), (6, _), (7, _), (8, _)] ⟨rfl, rfl, rfl, rfl, trivial⟩ ?_
  refine vc_block ?_
  refine vc_loop (w0 := w0) (M := []) (fun (y : Nat × Option Addr × Nat × List Value × List Nat) => [(3, .slice y.2.1 y.1 y.2.2.1), (6, .slice oa es.length cap), (7, .int .i64 (es.length : Int)), (8, .int .i64 (y.1 : Int))]) (fun y => [.own (.slice y.2.1 y.1 y.2.2.1) 83 7 y.1 y.2.2.2.1, .tree y.2.2.2.2 (fun w => SmSs 26 83 w (es.take y.1) y.2.2.2.1 y.2.2.2.2)]) (fun y _ => y.1 ≤ es.length ∧ Nw w0.heap.size y.2.2.2.2) (fun y => es.length - y.1) (0, none, 0, [], []) ⟨rfl, rfl, rfl, rfl, trivial⟩ (by simpa using st) ⟨by simp, Nw.nil⟩ ?_
  clear st
  rintro ⟨j, oj, cj, xs, S⟩ w ⟨hj, hSS⟩ st
  dsimp only at *
  refine vc_seq ?_
  refine vc_region ?_
  refine vc_y rfl rfl (y_lss rfl rfl) ?_
  refine vc_end ?_
  refine vq_then ?_
  refine vc_keep [(3, _), (6, _), (7, _), (8, _), (9, _)] ⟨rfl, rfl, rfl, rfl, rfl, trivial⟩ ?_
  refine vc_seq ?_
  refine vc_ifs rfl ?_ ?_
  · intro hc9
    try simp only [dn] at hc9
    have stK := st
    obtain ⟨s, hsj⟩ : ∃ s, es[j]? = some s := ⟨_, List.getElem?_eq_getElem (by omega)⟩
    obtain ⟨gb, go, rfl, hgS, hgl, hg⟩ := SmRow.at hr (by omega)
    obtain ⟨oe, ob, ol, ce, cb, cl, hsV, hse, hsb, hsl, hc⟩ := hg j s hsj
    have hks := hok.2 j s hsj
    have hz := mem_size hsj
    have hB : szo s.body < szo es := by have : szo s.body < szo s := by cases s; exact sm_size.1
                                        omega
    have hL : szo s.els < szo es := by have : szo s.els < szo s := by cases s; exact sm_size.2
                                       omega
    have st := stK
    clear stK
    refine vc_code_skip ?_
    refine vq_then ?_
    refine vc_keep [(3, _), (6, _), (7, _), (8, _)] ⟨rfl, rfl, rfl, rfl, trivial⟩ ?_
    refine vc_seq ?_
    refine vc_block ?_
    refine vc_seq ?_
    refine vc_region ?_
    refine vc_y rfl rfl ((by exact y_ia (k := j) rfl rfl Tryd.underlying76 Tryd.sizeOf83 rfl (by omega))) ?_
    refine vc_y rfl rfl ((by exact y_ldca (smL s oe ob ol ce cb cl) rfl Tryd.isAgg83 Tryd.sizeOf83 rfl (fun i v hi => st.chg.cell (hc i v hi) (by simp)))) ?_
    refine vc_e (e_al (l := [_, _, _, _, _, _, _]) st rfl rfl Tryd.zeroValue83 rfl ?_)
    intro b5 w hb5 st
    refine vc_e (e_sts (vs := [_, _, _, _, _, _, _]) st 0 rfl rfl rfl rfl rfl Tryd.sizeOf83 rfl rfl (by first | (right; assumption) | (left; simp)) ?_)
    intro w st; dsimp only [setNth, wr] at st
    refine vc_end ?_
    refine vq_then ?_
    refine vc_keep [(3, _), (5, _), (6, _), (7, _), (8, _)] ⟨rfl, rfl, rfl, rfl, rfl, trivial⟩ ?_
    refine vc_seq ?_
    refine vk_draw Tryd.mixed [(0, true), (3, true), (6, true), (1, true), (4, true), (7, true), (2, false), (9, true), (5, false), (8, false), (10, false), (11, true), (12, false), (13, true), (14, false)] 10 (fun w => St _ _ [.blk b5 (.cells (smL s oe ob ol ce cb cl).toArray 83 (0, 0))] w) (by exact st.drop (by repeat (first | exact sl0 | apply sl1 | apply sl2))) (by kernel_rfl) (by repeat (first | exact okQ_body | refine okQ_then ?_ | refine okQ_block ?_)) rfl (by kernel_rfl) rfl ?_
    intro w cd; replace st := st.call0 cd; clear cd
    have hS : St _ _ [.blk b5 (.cells (smL s oe ob ol ce cb cl).toArray 83 (0, 0))] w := (by exact st.drop (by repeat (first | exact sl0 | apply sl1 | apply sl2)))
    refine vk_takeU rfl rfl rfl rfl (fun _ => hS) (fun w => (by exact y_faz (k := 3) rfl Tryd.underlying83 rfl rfl Tryd.sizeOf24 rfl)) ?_
    refine vk_takeU rfl rfl rfl rfl (fun _ => hS) (fun w => (by exact y_faz (k := 4) rfl Tryd.underlying83 rfl rfl Tryd.sizeOf76 rfl)) ?_
    refine vk_takeU rfl rfl rfl rfl (fun _ => hS) (fun w => (by exact y_faz (k := 5) rfl Tryd.underlying83 rfl rfl Tryd.sizeOf76 rfl)) ?_
    refine vk_take rfl rfl rfl rfl hS (fun w st => (by exact y_ld st 0 rfl Tryd.isAgg24 rfl rfl)) ?_
    refine vk_take rfl rfl rfl rfl hS (fun w st => (by exact y_ld st 0 rfl Tryd.isAgg76 rfl rfl)) ?_
    refine vk_take rfl rfl rfl rfl hS (fun w st => (by exact y_ld st 0 rfl Tryd.isAgg76 rfl rfl)) ?_
    refine vk_do rfl rfl (e_call [_] rfl rfl Tryd.call79 rfl (pcopyE_any _ s.e rfl hks.e _ _ _ (hse.kept (Same.of_nil st.chg)) (Nat.le_trans hn0 st.chg.size)) ?_)
    rintro _ w ⟨q1, c1, S1, rfl, hQ, hN, cw⟩
    have hN1 := hN.le st.chg.size
    replace st := St.pushR (r := .tree S1 (fun w => ExRQ w q1 c1 s.e S1)) st cw (holds_of hQ hQ.lt (fun a b h hk => h.kept hk)) hN.2
    refine vk_next (by exact st.drop (by repeat (first | exact sl0 | apply sl1 | apply sl2))) ?_; intro hS
    refine vk_takeU rfl rfl rfl rfl (fun _ => hS) (fun w => (by exact y_faz (k := 3) rfl Tryd.underlying83 rfl rfl Tryd.sizeOf24 rfl)) ?_
    refine vk_do rfl rfl (e_call [_] rfl rfl Tryd.call47 rfl (ih _ hB s.body rfl hks.body _ _ _ (hsb.kept (Same.of_nil st.chg)) (Nat.le_trans hn0 st.chg.size)) ?_)
    rintro _ w ⟨q2, c2, S2, rfl, hQ, hN, cw⟩
    have hN2 := hN.le st.chg.size
    replace st := St.pushR (r := .tree S2 (fun w => SmRQ w q2 c2 s.body S2)) st cw (holds_of hQ hQ.lt (fun a b h hk => h.kept hk)) hN.2
    refine vk_next (by exact st.drop (by repeat (first | exact sl0 | apply sl1 | apply sl2))) ?_; intro hS
    refine vk_do rfl rfl (e_call [_] rfl rfl Tryd.call47 rfl (ih _ hL s.els rfl hks.els _ _ _ (hsl.kept (Same.of_nil st.chg)) (Nat.le_trans hn0 st.chg.size)) ?_)
    rintro _ w ⟨q3, c3, S3, rfl, hQ, hN, cw⟩
    have hN3 := hN.le st.chg.size
    replace st := St.pushR (r := .tree S3 (fun w => SmRQ w q3 c3 s.els S3)) st cw (holds_of hQ hQ.lt (fun a b h hk => h.kept hk)) hN.2
    refine vk_next (by exact st.drop (by repeat (first | exact sl0 | apply sl1 | apply sl2))) ?_; intro hS
    refine vk_do rfl rfl (e_st st 3 rfl rfl rfl rfl Tryd.sizeOf24 rfl rfl (by first | (right; assumption) | (left; simp)) ?_)
    intro w st; dsimp only [setNth, wr] at st
    refine vk_late ?_
    refine vk_takeU rfl rfl rfl rfl (fun h => by cases h) (fun w => (by exact y_faz (k := 4) rfl Tryd.underlying83 rfl rfl Tryd.sizeOf76 rfl)) ?_
    refine vk_do rfl rfl (e_st st 3 rfl rfl rfl rfl Tryd.sizeOf76 rfl rfl (by first | (right; assumption) | (left; simp)) ?_)
    intro w st; dsimp only [setNth, wr] at st
    refine vk_late ?_
    refine vk_takeU rfl rfl rfl rfl (fun h => by cases h) (fun w => (by exact y_faz (k := 5) rfl Tryd.underlying83 rfl rfl Tryd.sizeOf76 rfl)) ?_
    refine vk_do rfl rfl (e_st st 3 rfl rfl rfl rfl Tryd.sizeOf76 rfl rfl (by first | (right; assumption) | (left; simp)) ?_)
    intro w st; dsimp only [setNth, wr] at st
    refine vk_late ?_
    refine vk_end ?_
    refine vq_then ?_
    refine vc_keep [(3, _), (5, _), (6, _), (7, _), (8, _)] ⟨rfl, rfl, rfl, rfl, rfl, trivial⟩ ?_
    refine vc_region ?_
    refine vc_y rfl rfl (y_mv rfl) ?_
    refine vc_y rfl rfl ((by exact y_lda (vs := [_, _, _, _, _, _, _]) st 3 rfl Tryd.isAgg83 Tryd.sizeOf83 rfl rfl)) ?_
    refine vc_e (e_bs1 (l := [_, _, _, _, _, _, _]) st rfl rfl rfl rfl Tryd.underlying76 Tryd.sizeOf83 rfl rfl rfl Tryd.zeroValue83 ?_)
    intro b26 w hb26 st
    refine vc_e (e_app (bytes := 120) st 5 0 rfl rfl rfl rfl rfl rfl Tryd.underlying76 Tryd.info83 rfl rfl rfl rfl rfl (by simp) rfl rfl (by unfold maxLen; omega) (by omega) ?_)
    intro oaQ capQ w st; dsimp only [setNth] at st
    refine vc_y rfl rfl (y_as rfl) ?_
    refine vc_end ?_
    refine vq_block ?_
    refine vq_then ?_
    refine vc_keep [(3, _), (6, _), (7, _), (8, _)] ⟨rfl, rfl, rfl, rfl, trivial⟩ ?_
    refine vc_region ?_
    have d23 := st.ne (i := 2) (j := 1) (by decide) rfl rfl
    have d12 := st.ne (i := 3) (j := 2) (by decide) rfl rfl
    have d13 := st.ne (i := 3) (j := 1) (by decide) rfl rfl
    have dS1 := st.ne (i := 6) (j := 3) (by decide) rfl rfl
    have dS2 := st.ne (i := 6) (j := 2) (by decide) rfl rfl
    have dS3 := st.ne (i := 6) (j := 1) (by decide) rfl rfl
    have hNq := hN1.app (hN2.app hN3 d23) (fun b hb hb' => (List.mem_append.1 hb').elim (d12 b hb) (d13 b hb))
    have hne : ∀ b ∈ S, b ∉ S1 ++ (S2 ++ S3) := fun b hb hb' => (List.mem_append.1 hb').elim (dS1 b hb) fun h => (List.mem_append.1 h).elim (dS2 b hb) (dS3 b hb)
    have h0 := (st.res (i := 6) rfl).1
    have h1 := (st.res (i := 3) rfl).1
    have h2 := (st.res (i := 2) rfl).1
    have h3 := (st.res (i := 1) rfl).1
    have h4 : SmSs 26 83 w (es.take (j + 1)) (xs ++ smL s q1 q2 q3 c1 c2 c3) (S ++ (S1 ++ (S2 ++ S3))) := by rw [take_snoc hsj]; exact SmSs.snoc h0 (SmS_iff.2 ⟨q1, c1, q2, c2, q3, c3, S1, S2, S3, rfl, h1, h2, h3, rfl⟩)
    have stN := (((st.pick [6, 3, 2, 1, 5] rfl (by decide)).joinN 4 (q := .tree (S ++ (S1 ++ (S2 ++ S3))) fun w => SmSs 26 83 w (es.take (j + 1)) (xs ++ smL s q1 q2 q3 c1 c2 c3) (S ++ (S1 ++ (S2 ++ S3)))) (fun k hk => by
      simp only [Res.at?, List.mem_append] at hk
      rcases hk with h | h | h | h
      · exact ⟨_, .head _, h⟩
      · exact ⟨_, .tail _ (.head _), h⟩
      · exact ⟨_, .tail _ (.tail _ (.head _)), h⟩
      · exact ⟨_, .tail _ (.tail _ (.tail _ (.head _))), h⟩) (holds_of h4 h4.lt (fun a b h hk => h.kept hk)))).pick [1, 0] rfl (by decide)
    refine vc_y rfl rfl (y_add rfl rfl (by omega : _ = ((j + 1 : Nat) : Int)) (by omega) (by omega)) ?_
    refine vc_y rfl rfl (y_mv rfl) ?_
    refine vc_end ?_
    refine vq_again (j + 1, oaQ, capQ, xs ++ smL s q1 q2 q3 c1 c2 c3, S ++ (S1 ++ (S2 ++ S3)))  ⟨rfl, rfl, rfl, rfl, trivial⟩ stN ?_ ?_
    · exact ⟨by dsimp only; omega, hSS.app hNq hne⟩
    · dsimp only; omega
  · intro hc9
    try simp only [dn] at hc9
    refine vc_exit ?_
    refine vq_then_exit ?_
    refine vq_then_exit ?_
    refine vq_block_exit ?_
    refine vq_then ?_
    refine vc_keep [(3, _)] ⟨rfl, trivial⟩ ?_
    refine vc_seq ?_
    refine vc_region ?_
    refine vc_y rfl rfl (y_mv rfl) ?_
    refine vc_y rfl rfl (y_as rfl) ?_
    refine vc_end ?_
    refine vq_then ?_
    refine vc_keep [(2, _)] ⟨rfl, trivial⟩ ?_
    refine vc_ret ?_
    refine vq_ret1 st (.inl rfl) Tryd.results47 (.tmp rfl) ?_
    refine ⟨_, rfl, ?_⟩
    obtain rfl : j = es.length := by omega
    rw [List.take_length] at st
    obtain ⟨h1, h2⟩ := st.ownNw (i := 0) rfl
    have h3 := (st.res (i := 1) rfl).1
    exact ⟨oj, cj, obk oj ++ S, rfl, ⟨xs, S, h1, rfl, h3⟩, h2.app hSS (fun b hb => st.ne (i := 0) (j := 1) (by decide) rfl rfl b (by simpa [Res.at?, obk_own] using hb)), st.chg⟩

end
end Go.Proofs.YtggnfanphcaamaaDoor


namespace Go.Proofs.YtggnfanphcaamaaDoor
open Go.RowKit Sx LexS
set_option linter.unusedVariables false
set_option linter.unusedSimpArgs false
section
variable {n0 : Nat}

set_option maxHeartbeats 2000000 in
theorem pcopyP_any (p : Pg) (hok : OkP p) (os ol ot : Option Addr) (cs cl ct : Nat) (w : World) (hSh : DcRow w (· < n0) os p.shared) (hL : DcRow w (· < n0) ol p.locks) (hT : ThRow w (· < n0) ot p.threads) (hn0 : n0 ≤ w.heap.size) :
    Ret Tryd.prog 20 [.agg (pgL p os ol ot cs cl ct).toArray] w fun v w' => ∃ l S, v = .agg l.toArray ∧ PgQ w' p l S ∧ Nw w.heap.size S ∧ Chg [] w w' := by
  refine ret_of [_] Tryd.func20 rfl Tryd.ntmps20 rfl ?_
  have st := St.init w []
  obtain ⟨w0, rfl⟩ : ∃ w0, w0 = w := ⟨_, rfl⟩
  have hn1 := hok.1.1
  have hn2 := hok.2.1.1
  have hn3 := hok.2.2.1
  refine vc_seq ?_
  refine vc_region ?_
  refine vc_e (e_bx (l := [_, _, _]) st rfl rfl rfl rfl ?_)
  intro b1 w hb1 st
  refine vc_e (e_al (l := [_, _, _]) st rfl rfl Tryd.zeroValue44 rfl ?_)
  intro b2 w hb2 st
  refine vc_end ?_
  refine vq_then ?_
  refine vc_keep [(1, _), (2, _)] ⟨rfl, rfl, trivial⟩ ?_
  refine vc_cut (w0 := w0) (M := []) (fun (z : Option Addr × Nat × Option Addr × Nat × Nat) => [(1, .pointer (some ⟨b1, 0, none⟩)), (2, .pointer (some ⟨b2, 0, none⟩)), (3, .pointer (some ⟨z.2.2.2.2, 0, none⟩))]) (fun z => [.blk z.2.2.2.2 (.cells [.slice z.1 p.shared.length z.2.1, .slice z.2.2.1 p.locks.length z.2.2.2.1, .slice none 0 0].toArray 44 (0, 0)), .own (.slice z.1 p.shared.length z.2.1) 80 3 p.shared.length (p.shared.flatMap dcL), .own (.slice z.2.2.1 p.locks.length z.2.2.2.1) 80 3 p.locks.length (p.locks.flatMap dcL), .blk b2 (.cells [.slice none 0 0, .slice none 0 0, .slice none 0 0].toArray 44 (0, 0)), .blk b1 (.cells (pgL p os ol ot cs cl ct).toArray 44 (0, 0))]) (fun z _ => w0.heap.size ≤ z.2.2.2.2) ?_ ?_
  ·
    refine vd_draw Tryd.mixed (.take 0 (.take 1 (.take 3 (.take 4 (.two 2 7 (.two 5 7 (.take 6 (.one 7 (.one 8 .done))) (.one 5 (.take 6 (.one 8 .done)))) (.one 2 (.one 5 (.take 6 (.one 8 .done))))))))) (fun w => St _ _ [.blk b2 (.cells [.slice none 0 0, .slice none 0 0, .slice none 0 0].toArray 44 (0, 0)), .blk b1 (.cells (pgL p os ol ot cs cl ct).toArray 44 (0, 0))] w) (by exact st) (by kernel_rfl) (by repeat (first | exact okQ_body | refine okQ_then ?_ | refine okQ_block ?_)) rfl (by kernel_rfl) ?_
    intro w cd; replace st := st.call0 cd; clear cd
    have hS : St _ _ [.blk b2 (.cells [.slice none 0 0, .slice none 0 0, .slice none 0 0].toArray 44 (0, 0)), .blk b1 (.cells (pgL p os ol ot cs cl ct).toArray 44 (0, 0))] w := (by exact st)
    refine vd_take rfl rfl rfl hS (fun w st => y_fa0 rfl Tryd.underlying44 rfl rfl Tryd.sizeOf41 rfl) ?_
    refine vd_take rfl rfl rfl hS (fun w st => (by exact y_ld st 1 rfl Tryd.isAgg41 rfl rfl)) ?_
    refine vd_take rfl rfl rfl hS (fun w st => (by exact y_faz (k := 1) rfl Tryd.underlying44 rfl rfl Tryd.sizeOf41 rfl)) ?_
    refine vd_take rfl rfl rfl hS (fun w st => (by exact y_ld st 1 rfl Tryd.isAgg41 rfl rfl)) ?_
    refine vd_two rfl rfl ?_ ?_
    ·
      replace st := st.ownNil 80 3
      refine (e_appr (bytes := 32) (len' := p.shared.length) (ys := p.shared.flatMap dcL) st 0 rfl rfl rfl rfl rfl (DcRow.rd (S := (· < n0)) (RowC.kept hSh (Same.of_nil st.chg))) Tryd.underlying41 Tryd.info80 rfl rfl rfl rfl rfl (dcs_len p.shared) (dcs_one p.shared) (by unfold maxLen; omega) (by omega) (by omega) (by simp) ?_)
      intro s1o s1c w st; dsimp only [setNth] at st
      refine vd_next (by exact st.drop (by repeat (first | exact sl0 | apply sl1 | apply sl2))) ?_; intro hS
      refine vd_two rfl rfl ?_ ?_
      ·
        replace st := st.ownNil 80 3
        refine (e_appr (bytes := 32) (len' := p.locks.length) (ys := p.locks.flatMap dcL) st 0 rfl rfl rfl rfl rfl (DcRow.rd (S := (· < n0)) (RowC.kept hL (Same.of_nil st.chg))) Tryd.underlying41 Tryd.info80 rfl rfl rfl rfl rfl (dcs_len p.locks) (dcs_one p.locks) (by unfold maxLen; omega) (by omega) (by omega) (by simp) ?_)
        intro s2o s2c w st; dsimp only [setNth] at st
        refine vd_next (by exact st.drop (by repeat (first | exact sl0 | apply sl1 | apply sl2))) ?_; intro hS
        refine vd_take rfl rfl rfl hS (fun w st => y_bld (.agg #[_, _, _]) [(0, _), (1, _)] rfl (fun w => by simp [Instr.build, go_sem] <;> repeat' constructor)) ?_
        refine vd_do rfl (e_al (l := [_, _, _]) st rfl rfl Tryd.zeroValue44 rfl ?_)
        intro b3 w hb3 st
        refine vd_next (by exact st.drop (by repeat (first | exact sl0 | apply sl1 | apply sl2))) ?_; intro hS
        refine vd_do rfl (e_sts (vs := [_, _, _]) st 0 rfl rfl rfl rfl rfl Tryd.sizeOf44 rfl rfl (by first | (right; assumption) | (left; simp)) ?_)
        intro w st; dsimp only [setNth, wr] at st
        refine vd_next (by exact st.drop (by repeat (first | exact sl0 | apply sl1 | apply sl2))) ?_; intro hS
        refine vd_end ?_
        refine vq_meet (s1o, s1c, s2o, s2c, b3) ⟨rfl, rfl, rfl, trivial⟩ (by exact st.pick [0, 2, 1, 3, 4] rfl (by decide)) ?_
        · assumption
      ·
        refine (e_al (l := [_, _, _]) st rfl rfl Tryd.zeroValue44 rfl ?_)
        intro b3 w hb3 st
        refine vd_next (by exact st.drop (by repeat (first | exact sl0 | apply sl1 | apply sl2))) ?_; intro hS
        replace st := st.ownNil 80 3
        replace st := st.ownNil 80 3
        refine vd_do rfl (e_appr (bytes := 32) (len' := p.locks.length) (ys := p.locks.flatMap dcL) st 0 rfl rfl rfl rfl rfl (DcRow.rd (S := (· < n0)) (RowC.kept hL (Same.of_nil st.chg))) Tryd.underlying41 Tryd.info80 rfl rfl rfl rfl rfl (dcs_len p.locks) (dcs_one p.locks) (by unfold maxLen; omega) (by omega) (by omega) (by simp) ?_)
        intro s2o s2c w st; dsimp only [setNth] at st
        refine vd_next (by exact st.drop (by repeat (first | exact sl0 | apply sl1 | apply sl2))) ?_; intro hS
        refine vd_take rfl rfl rfl hS (fun w st => y_bld (.agg #[_, _, _]) [(0, _), (1, _)] rfl (fun w => by simp [Instr.build, go_sem] <;> repeat' constructor)) ?_
        refine vd_do rfl (e_sts (vs := [_, _, _]) st 2 rfl rfl rfl rfl rfl Tryd.sizeOf44 rfl rfl (by first | (right; assumption) | (left; simp)) ?_)
        intro w st; dsimp only [setNth, wr] at st
        refine vd_next (by exact st.drop (by repeat (first | exact sl0 | apply sl1 | apply sl2))) ?_; intro hS
        refine vd_end ?_
        refine vq_meet (s1o, s1c, s2o, s2c, b3) ⟨rfl, rfl, rfl, trivial⟩ (by exact st.pick [2, 3, 0, 4, 5] rfl (by decide)) ?_
        · assumption
    ·
      refine (e_al (l := [_, _, _]) st rfl rfl Tryd.zeroValue44 rfl ?_)
      intro b3 w hb3 st
      refine vd_next (by exact st.drop (by repeat (first | exact sl0 | apply sl1 | apply sl2))) ?_; intro hS
      replace st := st.ownNil 80 3
      replace st := st.ownNil 80 3
      refine vd_do rfl (e_appr (bytes := 32) (len' := p.shared.length) (ys := p.shared.flatMap dcL) st 0 rfl rfl rfl rfl rfl (DcRow.rd (S := (· < n0)) (RowC.kept hSh (Same.of_nil st.chg))) Tryd.underlying41 Tryd.info80 rfl rfl rfl rfl rfl (dcs_len p.shared) (dcs_one p.shared) (by unfold maxLen; omega) (by omega) (by omega) (by simp) ?_)
      intro s1o s1c w st; dsimp only [setNth] at st
      refine vd_next (by exact st.drop (by repeat (first | exact sl0 | apply sl1 | apply sl2))) ?_; intro hS
      replace st := st.ownNil 80 3
      replace st := st.ownNil 80 3
      refine vd_do rfl (e_appr (bytes := 32) (len' := p.locks.length) (ys := p.locks.flatMap dcL) st 0 rfl rfl rfl rfl rfl (DcRow.rd (S := (· < n0)) (RowC.kept hL (Same.of_nil st.chg))) Tryd.underlying41 Tryd.info80 rfl rfl rfl rfl rfl (dcs_len p.locks) (dcs_one p.locks) (by unfold maxLen; omega) (by omega) (by omega) (by simp) ?_)
      intro s2o s2c w st; dsimp only [setNth] at st
      refine vd_next (by exact st.drop (by repeat (first | exact sl0 | apply sl1 | apply sl2))) ?_; intro hS
      refine vd_take rfl rfl rfl hS (fun w st => y_bld (.agg #[_, _, _]) [(0, _), (1, _)] rfl (fun w => by simp [Instr.build, go_sem] <;> repeat' constructor)) ?_
      refine vd_do rfl (e_sts (vs := [_, _, _]) st 4 rfl rfl rfl rfl rfl Tryd.sizeOf44 rfl rfl (by first | (right; assumption) | (left; simp)) ?_)
      intro w st; dsimp only [setNth, wr] at st
      refine vd_next (by exact st.drop (by repeat (first | exact sl0 | apply sl1 | apply sl2))) ?_; intro hS
      refine vd_end ?_
      refine vq_meet (s1o, s1c, s2o, s2c, b3) ⟨rfl, rfl, rfl, trivial⟩ (by exact st.pick [4, 2, 0, 5, 6] rfl (by decide)) ?_
      · assumption
  ·
    clear st
    rintro ⟨s1o, s1c, s2o, s2c, b3⟩ w hb3 st
    dsimp only at *
    refine vc_seq ?_
    refine vc_seq ?_
    refine vc_region ?_
    replace st := St.pushR (r := .tree [] (fun w => ThSs 26 83 80 w [] [] [])) st (Chg.refl _ _) (holds_of (by simp [ThSs]) (by simp) (fun a b h hk => h.kept hk)) (by simp [Res.at?])
    replace st := st.ownNil 78 4
    refine vc_y rfl rfl ((by exact y_faz (k := 2) rfl Tryd.underlying44 rfl rfl Tryd.sizeOf42 rfl)) ?_
    refine vc_y rfl rfl ((by exact y_ld st 6 rfl Tryd.isAgg42 rfl rfl)) ?_
    refine vc_y rfl rfl (y_lensl rfl Tryd.underlying42) ?_
    refine vc_y rfl rfl (y_mv rfl) ?_
    refine vc_end ?_
    refine vq_then ?_
    refine vc_keep [(2, _), (3, _), (14, _), (15, _), (16, _)] ⟨rfl, rfl, rfl, rfl, rfl, trivial⟩ ?_
    refine vc_block ?_
    refine vc_loop (w0 := w0) (M := []) (fun (y : Nat × Option Addr × Nat × List Value × List Nat) => [(2, .pointer (some ⟨b2, 0, none⟩)), (3, .pointer (some ⟨b3, 0, none⟩)), (14, .slice ot p.threads.length ct), (15, .int .i64 (p.threads.length : Int)), (16, .int .i64 (y.1 : Int))]) (fun y => [.own (.slice y.2.1 y.1 y.2.2.1) 78 4 y.1 y.2.2.2.1, .tree y.2.2.2.2 (fun w => ThSs 26 83 80 w (p.threads.take y.1) y.2.2.2.1 y.2.2.2.2), .blk b3 (.cells [.slice s1o p.shared.length s1c, .slice s2o p.locks.length s2c, .slice y.2.1 y.1 y.2.2.1].toArray 44 (0, 0)), .own (.slice s1o p.shared.length s1c) 80 3 p.shared.length (p.shared.flatMap dcL), .own (.slice s2o p.locks.length s2c) 80 3 p.locks.length (p.locks.flatMap dcL), .blk b2 (.cells [.slice none 0 0, .slice none 0 0, .slice none 0 0].toArray 44 (0, 0))]) (fun y _ => y.1 ≤ p.threads.length ∧ Nw w0.heap.size y.2.2.2.2) (fun y => p.threads.length - y.1) (0, none, 0, [], []) ⟨rfl, rfl, rfl, rfl, rfl, trivial⟩ (by simpa using st.pick [0, 1, 2, 3, 4, 5] rfl (by decide)) ⟨by simp, Nw.nil⟩ ?_
    clear st
    rintro ⟨j, oj, cj, xs, S⟩ w ⟨hj, hSS⟩ st
    dsimp only at *
    refine vc_seq ?_
    refine vc_region ?_
    refine vc_y rfl rfl (y_lss rfl rfl) ?_
    refine vc_end ?_
    refine vq_then ?_
    refine vc_keep [(2, _), (3, _), (14, _), (15, _), (16, _), (17, _)] ⟨rfl, rfl, rfl, rfl, rfl, rfl, trivial⟩ ?_
    refine vc_seq ?_
    refine vc_ifs rfl ?_ ?_
    · intro hc17
      try simp only [dn] at hc17
      have stK := st
      obtain ⟨t, htj⟩ : ∃ t, p.threads[j]? = some t := ⟨_, List.getElem?_eq_getElem (by omega)⟩
      obtain ⟨gb, go, rfl, hgS, hgl, hg⟩ := ThRow.at hT (by omega)
      obtain ⟨tl, tb, cll, cbb, htl, htb, hc⟩ := hg j t htj
      have hkt := hok.2.2.2 j t htj
      have st := stK
      clear stK
      refine vc_code_skip ?_
      refine vq_then ?_
      refine vc_keep [(2, _), (3, _), (14, _), (15, _), (16, _)] ⟨rfl, rfl, rfl, rfl, rfl, trivial⟩ ?_
      refine vc_seq ?_
      refine vc_block ?_
      refine vc_seq ?_
      refine vc_region ?_
      refine vc_y rfl rfl ((by exact y_ia (k := j) rfl rfl Tryd.underlying42 Tryd.sizeOf78 rfl (by omega))) ?_
      refine vc_y rfl rfl ((by exact y_ldca (thL t tl tb cll cbb) rfl Tryd.isAgg78 Tryd.sizeOf78 rfl (fun i v hi => st.chg.cell (hc i v hi) (by simp)))) ?_
      refine vc_e (e_al (l := [_, _, _, _]) st rfl rfl Tryd.zeroValue78 rfl ?_)
      intro b5 w hb5 st
      refine vc_e (e_sts (vs := [_, _, _, _]) st 0 rfl rfl rfl rfl rfl Tryd.sizeOf78 rfl rfl (by first | (right; assumption) | (left; simp)) ?_)
      intro w st; dsimp only [setNth, wr] at st
      refine vc_end ?_
      refine vq_then ?_
      refine vc_keep [(2, _), (3, _), (5, _), (14, _), (15, _), (16, _)] ⟨rfl, rfl, rfl, rfl, rfl, rfl, trivial⟩ ?_
      refine vc_seq ?_
      refine vc_region ?_
      refine vc_y rfl rfl ((by exact y_faz (k := 1) rfl Tryd.underlying78 rfl rfl Tryd.sizeOf41 rfl)) ?_
      refine vc_y rfl rfl ((by exact y_ld st 0 rfl Tryd.isAgg41 rfl rfl)) ?_
      replace st := st.ownNil 80 3
      have hn5 := hkt.1.1
      refine vc_e (e_appr (bytes := 32) (len' := t.locals.length) (ys := t.locals.flatMap dcL) st 0 rfl rfl rfl rfl rfl (DcRow.rd (S := (· < n0)) (RowC.kept htl (Same.of_nil st.chg))) Tryd.underlying41 Tryd.info80 rfl rfl rfl rfl rfl (dcs_len t.locals) (dcs_one t.locals) (by unfold maxLen; omega) (by omega) (by omega) (by simp) ?_)
      intro s3o s3c w st; dsimp only [setNth] at st
      refine vc_y rfl rfl ((by exact y_faz (k := 1) rfl Tryd.underlying78 rfl rfl Tryd.sizeOf41 rfl)) ?_
      refine vc_e (e_st st 1 rfl rfl rfl rfl Tryd.sizeOf41 rfl rfl (by first | (right; assumption) | (left; simp)) ?_)
      intro w st; dsimp only [setNth, wr] at st
      refine vc_end ?_
      refine vq_then ?_
      refine vc_keep [(2, _), (3, _), (5, _), (14, _), (15, _), (16, _)] ⟨rfl, rfl, rfl, rfl, rfl, rfl, trivial⟩ ?_
      refine vc_seq ?_
      refine vc_region ?_
      refine vc_y rfl rfl ((by exact y_faz (k := 2) rfl Tryd.underlying78 rfl rfl Tryd.sizeOf76 rfl)) ?_
      refine vc_y rfl rfl ((by exact y_ld st 1 rfl Tryd.isAgg76 rfl rfl)) ?_
      refine vc_e (e_call [_] rfl rfl Tryd.call47 rfl (pcopyS_any _ t.body rfl hkt.2.1 _ _ _ (htb.kept (Same.of_nil st.chg)) (Nat.le_trans hn0 st.chg.size)) ?_)
      rintro _ w ⟨s4o, s4c, S4, rfl, hQ, hN, cw⟩
      have hN4 := hN.le st.chg.size
      replace st := St.pushR (r := .tree S4 (fun w => SmRQ w s4o s4c t.body S4)) st cw (holds_of hQ hQ.lt (fun a b h hk => h.kept hk)) hN.2
      refine vc_y rfl rfl ((by exact y_faz (k := 2) rfl Tryd.underlying78 rfl rfl Tryd.sizeOf76 rfl)) ?_
      refine vc_e (e_st st 2 rfl rfl rfl rfl Tryd.sizeOf76 rfl rfl (by first | (right; assumption) | (left; simp)) ?_)
      intro w st; dsimp only [setNth, wr] at st
      refine vc_end ?_
      refine vq_then ?_
      refine vc_keep [(2, _), (3, _), (5, _), (14, _), (15, _), (16, _)] ⟨rfl, rfl, rfl, rfl, rfl, rfl, trivial⟩ ?_
      refine vc_region ?_
      refine vc_y rfl rfl ((by exact y_faz (k := 2) rfl Tryd.underlying44 rfl rfl Tryd.sizeOf42 rfl)) ?_
      refine vc_y rfl rfl ((by exact y_ld st 5 rfl Tryd.isAgg42 rfl rfl)) ?_
      refine vc_y rfl rfl ((by exact y_lda (vs := [_, _, _, _]) st 2 rfl Tryd.isAgg78 Tryd.sizeOf78 rfl rfl)) ?_
      refine vc_e (e_bs1 (l := [_, _, _, _]) st rfl rfl rfl rfl Tryd.underlying42 Tryd.sizeOf78 rfl rfl rfl Tryd.zeroValue78 ?_)
      intro b31 w hb31 st
      refine vc_e (e_app (bytes := 72) st 4 0 rfl rfl rfl rfl rfl rfl Tryd.underlying42 Tryd.info78 rfl rfl rfl rfl rfl (by simp) rfl rfl (by unfold maxLen; omega) (by omega) ?_)
      intro oaQ capQ w st; dsimp only [setNth] at st
      refine vc_y rfl rfl ((by exact y_faz (k := 2) rfl Tryd.underlying44 rfl rfl Tryd.sizeOf42 rfl)) ?_
      refine vc_e (e_st st 6 rfl rfl rfl rfl Tryd.sizeOf42 rfl rfl (by first | (right; assumption) | (left; simp)) ?_)
      intro w st; dsimp only [setNth, wr] at st
      refine vc_end ?_
      refine vq_block ?_
      refine vq_then ?_
      refine vc_keep [(2, _), (3, _), (14, _), (15, _), (16, _)] ⟨rfl, rfl, rfl, rfl, rfl, trivial⟩ ?_
      refine vc_region ?_
      obtain ⟨h3, hN3⟩ := st.ownNw (i := 2) rfl
      have d34 := st.ne (i := 2) (j := 1) (by decide) rfl rfl
      simp only [Res.at?, obk_own] at d34
      have dS3 := st.ne (i := 5) (j := 2) (by decide) rfl rfl
      simp only [Res.at?, obk_own] at dS3
      have dS4 := st.ne (i := 5) (j := 1) (by decide) rfl rfl
      have hNq := hN3.app hN4 d34
      have hne : ∀ b ∈ S, b ∉ obk s3o ++ S4 := fun b hb hb' => (List.mem_append.1 hb').elim (dS3 b hb) (dS4 b hb)
      have h0 := (st.res (i := 5) rfl).1
      have h4 := (st.res (i := 1) rfl).1
      have h5 : ThSs 26 83 80 w (p.threads.take (j + 1)) (xs ++ thL t s3o s4o s3c s4c) (S ++ (obk s3o ++ S4)) := by rw [take_snoc htj]; exact ThSs.snoc h0 ⟨s3o, s3c, s4o, s4c, obk s3o, S4, rfl, ⟨h3, rfl⟩, h4, rfl⟩
      have stN := (((st.pick [5, 2, 1, 4, 6, 7, 8, 9] rfl (by decide)).joinN 3 (q := .tree (S ++ (obk s3o ++ S4)) fun w => ThSs 26 83 80 w (p.threads.take (j + 1)) (xs ++ thL t s3o s4o s3c s4c) (S ++ (obk s3o ++ S4))) (fun k hk => by
        simp only [Res.at?, List.mem_append] at hk
        rcases hk with h | h | h
        · exact ⟨_, .head _, h⟩
        · exact ⟨_, .tail _ (.head _), by simpa [Res.at?, obk_own] using h⟩
        · exact ⟨_, .tail _ (.tail _ (.head _)), h⟩) (holds_of h5 h5.lt (fun a b h hk => h.kept hk)))).pick [1, 0, 2, 3, 4, 5] rfl (by decide)
      refine vc_y rfl rfl (y_add rfl rfl (by omega : _ = ((j + 1 : Nat) : Int)) (by omega) (by omega)) ?_
      refine vc_y rfl rfl (y_mv rfl) ?_
      refine vc_end ?_
      refine vq_again (j + 1, oaQ, capQ, xs ++ thL t s3o s4o s3c s4c, S ++ (obk s3o ++ S4))  ⟨rfl, rfl, rfl, rfl, rfl, trivial⟩ stN ?_ ?_
      · exact ⟨by dsimp only; omega, hSS.app hNq hne⟩
      · dsimp only; omega
    · intro hc17
      try simp only [dn] at hc17
      obtain rfl : j = p.threads.length := by omega
      rw [List.take_length] at st
      refine vc_exit ?_
      refine vq_then_exit ?_
      refine vq_then_exit ?_
      refine vq_block_exit ?_
      refine vq_then ?_
      refine vc_keep [(2, _), (3, _)] ⟨rfl, rfl, trivial⟩ ?_
      refine vc_seq ?_
      refine vc_region ?_
      refine vc_y rfl rfl ((by exact y_lda (vs := [_, _, _]) st 2 rfl Tryd.isAgg44 Tryd.sizeOf44 rfl rfl)) ?_
      refine vc_e (e_sts (vs := [_, _, _]) st 5 rfl rfl rfl rfl rfl Tryd.sizeOf44 rfl rfl (by first | (right; assumption) | (left; simp)) ?_)
      intro w st; dsimp only [setNth, wr] at st
      refine vc_end ?_
      refine vq_then ?_
      refine vc_keep [(2, _)] ⟨rfl, trivial⟩ ?_
      refine vc_ret ?_
      refine vq_ret1 st (.inl rfl) Tryd.results20 (by exact .cell 5 rfl rfl Tryd.isAgg44 Tryd.sizeOf44) ?_
      refine ⟨_, rfl, ?_⟩
      obtain ⟨h1, h2⟩ := st.ownNw (i := 0) rfl
      have h3 := (st.res (i := 1) rfl).1
      obtain ⟨h4, hN1⟩ := st.ownNw (i := 3) rfl
      obtain ⟨h5, hN2⟩ := st.ownNw (i := 4) rfl
      have e0 := st.ne (i := 0) (j := 1) (by decide) rfl rfl
      have e1 := st.ne (i := 3) (j := 4) (by decide) rfl rfl
      have e2 := st.ne (i := 3) (j := 0) (by decide) rfl rfl
      have e3 := st.ne (i := 3) (j := 1) (by decide) rfl rfl
      have e4 := st.ne (i := 4) (j := 0) (by decide) rfl rfl
      have e5 := st.ne (i := 4) (j := 1) (by decide) rfl rfl
      simp only [Res.at?, obk_own] at e0 e1 e2 e3 e4 e5
      exact ⟨_, obk s1o ++ (obk s2o ++ (obk oj ++ S)), rfl, ⟨s1o, s1c, s2o, s2c, oj, cj, obk s1o, obk s2o, obk oj ++ S, rfl, ⟨h4, rfl⟩, ⟨h5, rfl⟩, ⟨xs, S, h1, rfl, h3⟩, rfl⟩,
        hN1.app (hN2.app (h2.app hSS e0) (fun b hb hb' => (List.mem_append.1 hb').elim (e4 b hb) (e5 b hb))) (fun b hb hb' => (List.mem_append.1 hb').elim (e1 b hb) fun h => (List.mem_append.1 h).elim (e2 b hb) (e3 b hb)), st.chg⟩

end
end Go.Proofs.YtggnfanphcaamaaDoor


namespace Go.Proofs.YtggnfanphcaamaaDoor
open Go.RowKit Sx LexS ParS
set_option linter.unusedVariables false
set_option linter.unusedSimpArgs false

set_option maxHeartbeats 4000000 in
theorem trees_any (p q : Pg) (a b : Ex) (hp : OkP p) (ha : OkEs a.kids) (hsz : szTs p.threads ≤ 1048576) (os ol ot os' ol' ot' oa ob : Option Addr) (cs cl ct cs' cl' ct' ca cb : Nat) (w : World) (hsg : SigAt 0 w)
    (hShp : DcRow w (· < w.heap.size) os p.shared) (hLp : DcRow w (· < w.heap.size) ol p.locks) (hTp : ThRow w (· < w.heap.size) ot p.threads)
    (hShq : DcRow w (· < w.heap.size) os' q.shared) (hLq : DcRow w (· < w.heap.size) ol' q.locks) (hTq : ThRow w (· < w.heap.size) ot' q.threads)
    (hra : ExRow w (· < w.heap.size) oa a.kids) (hrb : ExRow w (· < w.heap.size) ob b.kids) :
    Ret Tryd.prog 7 [.agg (pgC p os ol ot cs cl ct).toArray, .agg (pgC q os' ol' ot' cs' cl' ct').toArray, .agg (exC a oa ca).toArray, .agg (exC b ob cb).toArray] w fun v w' => v = .bool true ∧ Chg [] w w' := by
  refine ret_of [_, _, _, _] Tryd.func7 rfl Tryd.ntmps7 rfl ?_
  have st := St.init w []
  obtain ⟨w0, rfl⟩ : ∃ w0, w0 = w := ⟨_, rfl⟩
  have hT1 : ∀ b, b < w0.heap.size → True := fun _ _ => trivial
  refine vc_seq ?_
  refine vc_region ?_
  refine vc_e (e_bx (l := [_, _, _]) st rfl rfl rfl rfl ?_)
  intro b4 w hb4 st
  refine vc_e (e_bx (l := [_, _, _]) st rfl rfl rfl rfl ?_)
  intro b5 w hb5 st
  refine vc_e (e_bx (l := [_, _, _, _, _, _]) st rfl rfl rfl rfl ?_)
  intro b6 w hb6 st
  refine vc_e (e_bx (l := [_, _, _, _, _, _]) st rfl rfl rfl rfl ?_)
  intro b7 w hb7 st
  refine vc_y rfl rfl (y_as rfl) ?_
  refine vc_end ?_
  refine vq_then ?_
  refine vc_keep [(4, _), (5, _), (6, _), (7, _)] ⟨rfl, rfl, rfl, rfl, trivial⟩ ?_
  refine vc_seq ?_
  refine vc_region ?_
  refine vc_y rfl rfl ((by exact y_lda (vs := [_, _, _]) st 3 rfl Tryd.isAgg44 Tryd.sizeOf44 rfl rfl)) ?_
  refine vc_e (e_call [_] rfl rfl Tryd.call20 rfl (pcopyP_any (n0 := w0.heap.size) p hp os ol ot cs cl ct _ (RowC.kept hShp (Same.of_nil st.chg)) (RowC.kept hLp (Same.of_nil st.chg)) (hTp.kept (Same.of_nil st.chg)) st.chg.size) ?_)
  rintro _ w ⟨lc, Sc, rfl, hQ, hN, cw⟩
  obtain ⟨os2, cs2, ol2, cl2, ot2, ct2, S1, S2, S3, rfl, hd1, hd2, hd3, hSc⟩ := hQ
  have hQ : PgQ w p (pgC p os2 ol2 ot2 cs2 cl2 ct2) Sc := ⟨os2, cs2, ol2, cl2, ot2, ct2, S1, S2, S3, rfl, hd1, hd2, hd3, hSc⟩
  replace st := st.pushR cw (holds_pg hQ) hN.2
  clear hd1 hd2 hd3 hSc
  refine vc_e (e_al (l := [_, _, _]) st rfl rfl Tryd.zeroValue44 rfl ?_)
  intro b9 w hb9 st
  refine vc_e (e_sts (vs := [_, _, _]) st 0 rfl rfl rfl rfl rfl Tryd.sizeOf44 rfl rfl (by first | (right; assumption) | (left; simp)) ?_)
  intro w st; dsimp only [setNth, wr] at st
  refine vc_end ?_
  refine vq_then ?_
  refine vc_keep [(4, _), (5, _), (6, _), (7, _), (9, _)] ⟨rfl, rfl, rfl, rfl, rfl, trivial⟩ ?_
  refine vc_seq ?_
  refine vc_region ?_
  refine vc_y rfl rfl ((by exact y_lda (vs := [_, _, _]) st 5 rfl Tryd.isAgg44 Tryd.sizeOf44 rfl rfl)) ?_
  refine vc_e (e_call [_] rfl rfl Tryd.call21 rfl (psize_any (S := (· < w0.heap.size)) p hp hsz os ol ot cs cl ct _ (hTp.kept (Same.of_nil st.chg)) (fun b hb => Nat.lt_of_lt_of_le hb st.chg.size)) ?_)
  rintro _ w ⟨rfl, cw⟩
  replace st := st.call0 cw
  refine vc_y rfl rfl (y_mv rfl) ?_
  refine vc_y rfl rfl (y_ext rfl rfl) ?_
  refine vc_y rfl rfl (y_ext rfl rfl) ?_
  refine vc_y rfl rfl (y_as rfl) ?_
  refine vc_y rfl rfl (y_as rfl) ?_
  refine vc_end ?_
  refine vq_then ?_
  refine vc_keep [(4, _), (5, _), (6, _), (7, _), (9, _), (10, _), (11, _)] ⟨rfl, rfl, rfl, rfl, rfl, rfl, rfl, trivial⟩ ?_
  refine vc_seq ?_
  refine vc_region ?_
  refine vc_y rfl rfl ((by exact y_lda (vs := [_, _, _]) st 5 rfl Tryd.isAgg44 Tryd.sizeOf44 rfl rfl)) ?_
  refine vc_e (e_call [_] rfl rfl Tryd.call22 rfl (rsize_any (S := (· < w0.heap.size)) p hp hsz os ol ot cs cl ct _ (hTp.kept (Same.of_nil st.chg))) ?_)
  rintro _ w ⟨rfl, cw⟩
  replace st := st.call0 cw
  refine vc_y rfl rfl (y_mv rfl) ?_
  refine vc_y rfl rfl (y_ext rfl rfl) ?_
  refine vc_y rfl rfl (y_ext rfl rfl) ?_
  refine vc_y rfl rfl (y_as rfl) ?_
  refine vc_y rfl rfl (y_as rfl) ?_
  refine vc_end ?_
  refine vq_then ?_
  refine vc_keep [(4, _), (5, _), (6, _), (7, _), (9, _), (10, _), (11, _), (12, _), (13, _)] ⟨rfl, rfl, rfl, rfl, rfl, rfl, rfl, rfl, rfl, trivial⟩ ?_
  refine vc_seq ?_
  refine vc_draw Tryd.mixed [(0, false), (1, true), (2, true), (3, true), (4, false), (5, true), (6, true), (7, true), (8, true), (10, true), (11, true), (9, false), (12, false), (13, true), (14, true), (15, true), (16, true), (17, true), (18, false), (19, true), (20, true), (21, true), (22, true), (24, true), (25, true), (23, false), (26, false), (27, true), (28, true), (29, true), (30, true), (31, true), (32, true), (33, true), (34, true), (35, true), (36, true), (37, true), (38, true), (39, true), (40, true), (42, true), (41, false), (43, false), (44, true), (45, true), (46, true)] (fun w => St _ _ _ w) st (by kernel_rfl) (by repeat (first | exact okQ_noPan | exact okQ_body | exact okQ_bodyS | refine okQ_then ?_ | refine okQ_block ?_)) rfl (by kernel_rfl) ?_
  intro w cd; replace st := st.call0 cd; clear cd
  have hS := st
  refine vp_do rfl (e_call [] rfl rfl Tryd.call10 rfl (lives_any _ (hsg.kept st.chg (by simp))) ?_)
  rintro _ w ⟨rfl, cw⟩
  replace st := st.call0 cw
  refine vp_next (by exact st) ?_; intro hS
  refine vp_part rfl rfl rfl hS rfl ?_ ?_
  · intro hg27
    try simp only [dn] at hg27
    refine vp_take rfl rfl rfl hS (fun w st => (by exact y_lda (vs := [_, _, _]) st 0 rfl Tryd.isAgg44 Tryd.sizeOf44 rfl rfl)) ?_
    refine vp_take rfl rfl rfl hS (fun w st => (by exact y_lda (vs := [_, _, _]) st 5 rfl Tryd.isAgg44 Tryd.sizeOf44 rfl rfl)) ?_
    refine vp_do rfl (e_call [_, _] rfl rfl Tryd.call23 rfl (rexactly_any (S := fun _ => True) p p hp _ _ _ _ _ _ _ _ _ _ _ _ _ (pgS_rows (st.res (i := 1) rfl).1).1 (pgS_rows (st.res (i := 1) rfl).1).2.1 (pgS_rows (st.res (i := 1) rfl).1).2.2 ((RowC.kept hShp (Same.of_nil st.chg)).mono hT1) ((RowC.kept hLp (Same.of_nil st.chg)).mono hT1) ((hTp.kept (Same.of_nil st.chg)).mono hT1)) ?_)
    rintro _ w ⟨rfl, cw⟩
    replace st := st.call0 cw
    refine vp_next (by exact st) ?_; intro hS
    refine vp_take rfl rfl rfl hS (fun w st => y_pickt rfl rfl) ?_
    refine vp_part rfl rfl rfl hS rfl ?_ ?_
    · intro hg32
      try simp only [dn] at hg32
      refine vp_take rfl rfl rfl hS (fun w st => (by exact y_lda (vs := [_, _, _]) st 5 rfl Tryd.isAgg44 Tryd.sizeOf44 rfl rfl)) ?_
      refine vp_take rfl rfl rfl hS (fun w st => (by exact y_lda (vs := [_, _, _]) st 4 rfl Tryd.isAgg44 Tryd.sizeOf44 rfl rfl)) ?_
      refine vp_take rfl rfl rfl hS (fun w st => (by exact y_lda (vs := [_, _, _]) st 5 rfl Tryd.isAgg44 Tryd.sizeOf44 rfl rfl)) ?_
      refine vp_take rfl rfl rfl hS (fun w st => (by exact y_lda (vs := [_, _, _]) st 4 rfl Tryd.isAgg44 Tryd.sizeOf44 rfl rfl)) ?_
      refine vp_do rfl (e_call [_, _] rfl rfl Tryd.call18 rfl (psameP_any (S := fun _ => True) p q hp _ _ _ _ _ _ _ _ _ _ _ _ _ ((RowC.kept hShp (Same.of_nil st.chg)).mono hT1) ((RowC.kept hLp (Same.of_nil st.chg)).mono hT1) ((hTp.kept (Same.of_nil st.chg)).mono hT1) ((RowC.kept hShq (Same.of_nil st.chg)).mono hT1) ((RowC.kept hLq (Same.of_nil st.chg)).mono hT1) ((hTq.kept (Same.of_nil st.chg)).mono hT1)) ?_)
      rintro _ w ⟨rfl, cw⟩
      replace st := st.call0 cw
      refine vp_next (by exact st) ?_; intro hS
      refine vp_do rfl (e_call [_, _] rfl rfl Tryd.call24 rfl (rsamePg_any (S := fun _ => True) p q hp _ _ _ _ _ _ _ _ _ _ _ _ _ ((RowC.kept hShp (Same.of_nil st.chg)).mono hT1) ((RowC.kept hLp (Same.of_nil st.chg)).mono hT1) ((hTp.kept (Same.of_nil st.chg)).mono hT1) ((RowC.kept hShq (Same.of_nil st.chg)).mono hT1) ((RowC.kept hLq (Same.of_nil st.chg)).mono hT1) ((hTq.kept (Same.of_nil st.chg)).mono hT1)) ?_)
      rintro _ w ⟨rfl, cw⟩
      replace st := st.call0 cw
      refine vp_next (by exact st) ?_; intro hS
      refine vp_take rfl rfl rfl hS (fun w st => y_eqb rfl rfl Tryd.underlying4) ?_
      refine vp_take rfl rfl rfl hS (fun w st => y_pickt rfl rfl) ?_
      refine vp_part rfl rfl rfl hS rfl ?_ ?_
      · intro hg41
        try simp only [dn] at hg41
        refine vp_take rfl rfl rfl hS (fun w st => (by exact y_lda (vs := [_, _, _]) st 5 rfl Tryd.isAgg44 Tryd.sizeOf44 rfl rfl)) ?_
        refine vp_take rfl rfl rfl hS (fun w st => (by exact y_lda (vs := [_, _, _]) st 5 rfl Tryd.isAgg44 Tryd.sizeOf44 rfl rfl)) ?_
        refine vp_do rfl (e_call [_, _] rfl rfl Tryd.call18 rfl (psameP_any (S := fun _ => True) p p hp _ _ _ _ _ _ _ _ _ _ _ _ _ ((RowC.kept hShp (Same.of_nil st.chg)).mono hT1) ((RowC.kept hLp (Same.of_nil st.chg)).mono hT1) ((hTp.kept (Same.of_nil st.chg)).mono hT1) ((RowC.kept hShp (Same.of_nil st.chg)).mono hT1) ((RowC.kept hLp (Same.of_nil st.chg)).mono hT1) ((hTp.kept (Same.of_nil st.chg)).mono hT1)) ?_)
        rintro _ w ⟨rfl, cw⟩
        replace st := st.call0 cw
        refine vp_next (by exact st) ?_; intro hS
        refine vp_take rfl rfl rfl hS (fun w st => y_pickt rfl rfl) ?_
        refine vp_part rfl rfl rfl hS rfl ?_ ?_
        · intro hg46
          try simp only [dn] at hg46
          refine vp_take rfl rfl rfl hS (fun w st => (by exact y_lda (vs := [_, _, _, _, _, _]) st 3 rfl Tryd.isAgg26 Tryd.sizeOf26 rfl rfl)) ?_
          refine vp_take rfl rfl rfl hS (fun w st => (by exact y_lda (vs := [_, _, _, _, _, _]) st 2 rfl Tryd.isAgg26 Tryd.sizeOf26 rfl rfl)) ?_
          refine vp_take rfl rfl rfl hS (fun w st => (by exact y_lda (vs := [_, _, _, _, _, _]) st 3 rfl Tryd.isAgg26 Tryd.sizeOf26 rfl rfl)) ?_
          refine vp_take rfl rfl rfl hS (fun w st => (by exact y_lda (vs := [_, _, _, _, _, _]) st 2 rfl Tryd.isAgg26 Tryd.sizeOf26 rfl rfl)) ?_
          refine vp_do rfl (e_call [_, _] rfl rfl Tryd.call19 rfl (psameE_any (S := (· < w0.heap.size)) a b ha oa ob ca cb _ (hra.kept (Same.of_nil st.chg)) (hrb.kept (Same.of_nil st.chg))) ?_)
          rintro _ w ⟨rfl, cw⟩
          replace st := st.call0 cw
          refine vp_next (by exact st) ?_; intro hS
          refine vp_do rfl (e_call [_, _] rfl rfl Tryd.call11 rfl (rsameE_any (S := (· < w0.heap.size)) a b oa ob ca cb _ (hra.kept (Same.of_nil st.chg)) (hrb.kept (Same.of_nil st.chg)) (fun w h1 h2 => rexprsS_any _ a.kids rfl ha b.kids _ _ _ _ w h1 h2)) ?_)
          rintro _ w ⟨rfl, cw⟩
          replace st := st.call0 cw
          refine vp_next (by exact st) ?_; intro hS
          refine vp_take rfl rfl rfl hS (fun w st => y_eqb rfl rfl Tryd.underlying4) ?_
          refine vp_take rfl rfl rfl hS (fun w st => y_pickt rfl rfl) ?_
          refine vp_part rfl rfl rfl hS rfl ?_ ?_
          · intro hg55
            try simp only [dn] at hg55
            refine vp_take rfl rfl rfl hS (fun w st => y_mv rfl) ?_
            refine vp_take rfl rfl rfl hS (fun w st => y_mv rfl) ?_
            refine vp_take rfl rfl rfl hS (fun w st => y_eqi rfl rfl) ?_
            refine vp_take rfl rfl rfl hS (fun w st => y_pickt rfl rfl) ?_
            refine vp_part rfl rfl rfl hS rfl ?_ ?_
            · intro hg60
              try simp only [dn] at hg60
              refine vp_take rfl rfl rfl hS (fun w st => y_mv rfl) ?_
              refine vp_take rfl rfl rfl hS (fun w st => y_mv rfl) ?_
              refine vp_take rfl rfl rfl hS (fun w st => y_eqi rfl rfl) ?_
              refine vp_take rfl rfl rfl hS (fun w st => y_pickt rfl rfl) ?_
              refine vp_part rfl rfl rfl hS rfl ?_ ?_
              · intro hg65
                try simp only [dn] at hg65
                refine vp_take rfl rfl rfl hS (fun w st => (by exact y_lda (vs := [_, _, _]) st 5 rfl Tryd.isAgg44 Tryd.sizeOf44 rfl rfl)) ?_
                refine vp_take rfl rfl rfl hS (fun w st => (by exact y_lda (vs := [_, _, _]) st 5 rfl Tryd.isAgg44 Tryd.sizeOf44 rfl rfl)) ?_
                refine vp_do rfl (e_call [_] rfl rfl Tryd.call25 rfl (pdeepP_any (S := (· < w0.heap.size)) p hp hsz os ol ot cs cl ct _ (hTp.kept (Same.of_nil st.chg))) ?_)
                rintro _ w ⟨rfl, cw⟩
                replace st := st.call0 cw
                refine vp_next (by exact st) ?_; intro hS
                refine vp_do rfl (e_call [_] rfl rfl Tryd.call26 rfl (rdeepP_any (S := (· < w0.heap.size)) p hp hsz os ol ot cs cl ct _ (hTp.kept (Same.of_nil st.chg))) ?_)
                rintro _ w ⟨rfl, cw⟩
                replace st := st.call0 cw
                refine vp_next (by exact st) ?_; intro hS
                refine vp_take rfl rfl rfl hS (fun w st => y_eqi rfl rfl) ?_
                refine vp_take rfl rfl rfl hS (fun w st => y_pickt rfl rfl) ?_
                refine vp_take rfl rfl rfl hS (fun w st => y_as rfl) ?_
                refine vp_end ?_
                refine vq_then ?_
                refine vc_keep [(8, _)] ⟨rfl, trivial⟩ ?_
                refine vc_ret ?_
                refine vq_ret1 st (.inl rfl) Tryd.results7 (.tmp rfl) ?_
                refine ⟨_, rfl, ?_⟩
                exact ⟨by simp, st.chg⟩
              · intro hg65
                simp at hg65
            · intro hg60
              simp at hg60
          · intro hg55
            simp at hg55
        · intro hg46
          rw [sameP_refl] at hg46; cases hg46
      · intro hg41
        simp at hg41
    · intro hg32
      rw [exactP_refl] at hg32; cases hg32
  · intro hg27
    exact absurd hg27 (by decide)

end Go.Proofs.YtggnfanphcaamaaDoor


/- How long a tree's text is: no program in sight. -/
namespace LexS
open Sx
set_option linter.unusedVariables false
set_option linter.unusedSimpArgs false
end LexS

