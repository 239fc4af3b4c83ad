/- A part of the proof: contracts of functions and plain laws; each theorem says its own conditions. -/
import Derived.Test.YtnmhlpnapgojjaaDoorK15
namespace Go.Proofs.YtnmhlpnapgojjaaDoor
open Go.RowKit Sx LexS
set_option linter.unusedVariables false
set_option linter.unusedSimpArgs false
section
variable {P : Program} {n : Fr} {L : List Oper} {kn : Kn} {w : World} {d ty : Nat} {pos : String} {aft : Array Edge} {g : Option (Nat × Bool)}
theorem y_ges {T U : Nat} {x y : Operand} {p q : List UInt8} (hx : evO kn x = some (str p)) (hy : evO kn y = some (str q)) : Y P n kn w ⟨some d, .binOp .geq T x y U, ty, pos, aft, g⟩ (.bool (!decide (p < q))) :=
  y_bo hx hy (by simp [eqGuard, binOp, Op.stringOp, str_toList, Go.Proofs.bytesLess_eq])
end
theorem take_mem {fr x : Wd} {l : List Wd} {i : Nat} (hx : l[i]? = some x) : decide (fr ∈ l.take (i + 1)) = (decide (fr ∈ l.take i) || decide (x = fr)) := by
  obtain ⟨hi, e⟩ := List.getElem?_eq_some_iff.1 hx
  rw [List.take_succ_eq_append_getElem hi, e, Bool.eq_iff_iff]
  simp only [List.mem_append, List.mem_singleton, Bool.or_eq_true, decide_eq_true_eq]
  exact or_congr_right ⟨Eq.symm, Eq.symm⟩

set_option maxHeartbeats 4000000 in
theorem lawPrettyRenamed (p : Pg) (fr tn : Wd) (os ol ot : Option Addr) (cs cl ct : Nat) (w : World) (hSh : DcRow w (· < w.heap.size) os p.shared) (hL : DcRow w (· < w.heap.size) ol p.locks) (hT : ThRow w (· < w.heap.size) ot p.threads) (hok : OkP p) (hsg : Sig w) (hlen : (nmsP p).length ≤ 4398046511104) :
    Ret Tryd.prog 5 [.agg (pgL p os ol ot cs cl ct).toArray, str fr, str tn] w fun v w' => v = .bool true ∧ Chg [] w w' := by
  refine ret_of [_, _, _] Tryd.func5 rfl Tryd.ntmps5 rfl ?_
  have st := St.init w []
  obtain ⟨w0, rfl⟩ : ∃ w0, w0 = w := ⟨_, rfl⟩
  have hok2 : OkP (renP p fr tn) := okP_tr (fun a h => h) hok
  have hlen2 : (nmsP (renP p fr tn)).length ≤ 4398046511104 := by rw [ren_names, List.length_map]; exact hlen
  have hnl := namesL_len p
  refine vc_seq ?_
  refine vc_region ?_
  refine vc_e (e_bx (l := [_, _, _]) st rfl rfl rfl rfl ?_)
  intro b3 w hb3 st
  refine vc_y rfl rfl (y_as rfl) ?_
  refine vc_end ?_
  refine vq_then ?_
  refine vc_keep [(1, _), (2, _), (3, _)] ⟨rfl, rfl, rfl, trivial⟩ ?_
  refine vc_seq ?_
  refine vc_seq ?_
  refine vc_region ?_
  refine vc_e (e_call [] rfl rfl Tryd.call11 rfl (begins_any _ (hsg.kept st.chg)) ?_)
  rintro _ w ⟨rfl, cw⟩
  replace st := st.call0 cw
  refine vc_y rfl rfl (y_not rfl) ?_
  refine vc_end ?_
  refine vq_then ?_
  refine vc_keep [(1, _), (2, _), (3, _), (15, _)] ⟨rfl, rfl, rfl, rfl, trivial⟩ ?_
  refine vc_ifs rfl ?_ ?_
  · intro hc15
    exfalso; revert hc15; simp; try omega
  · intro hc15
    try simp only [dn] at hc15
    refine vc_code_skip ?_
    refine vq_then ?_
    refine vc_keep [(1, _), (2, _), (3, _)] ⟨rfl, rfl, rfl, trivial⟩ ?_
    refine vc_seq ?_
    refine vc_region ?_
    refine vc_y rfl rfl ((by exact y_lda (vs := [_, _, _]) st 0 rfl Tryd.isAgg25 Tryd.sizeOf25 rfl rfl)) ?_
    refine vc_y rfl rfl (y_mv rfl) ?_
    refine vc_y rfl rfl (y_mv rfl) ?_
    refine vc_e (e_call [_, _, _] rfl rfl Tryd.call14 rfl (rename_any p hok fr tn _ _ _ _ _ _ _ (RowC.mono (RowC.kept hSh (Same.of_nil st.chg)) (fun b hb => Nat.lt_of_lt_of_le hb st.chg.size)) (RowC.mono (RowC.kept hL (Same.of_nil st.chg)) (fun b hb => Nat.lt_of_lt_of_le hb st.chg.size)) ((hT.kept (Same.of_nil st.chg)).mono (fun b hb => Nat.lt_of_lt_of_le hb st.chg.size)) (Nat.le_refl _) (hsg.kept st.chg) hlen) ?_)
    rintro _ w ⟨hR, cw⟩
    rcases hR with ⟨hp, rfl⟩ | ⟨hp, ho, rfl⟩ | ⟨hp, ho, gs, gl, gt, gcs, gcl, gct, Sg, rfl, hQ, hN⟩
    · replace st := st.call0 cw
      refine vc_y rfl rfl (y_mv rfl) ?_
      refine vc_y rfl rfl (y_ext rfl rfl) ?_
      refine vc_y rfl rfl (y_ext rfl rfl) ?_
      refine vc_e (e_al (l := [_, _, _]) st rfl rfl Tryd.zeroValue25 rfl ?_)
      intro b7 w hb7 st
      refine vc_e (e_sts (vs := [_, _, _]) st 0 rfl rfl rfl rfl rfl Tryd.sizeOf25 rfl rfl (by first | (right; assumption) | (left; simp)) ?_)
      intro w st; dsimp only [setNth, wr] at st
      refine vc_y rfl rfl (y_as rfl) ?_
      refine vc_end ?_
      refine vq_then ?_
      refine vc_keep [(1, _), (2, _), (3, _), (7, _), (8, _)] ⟨rfl, rfl, rfl, rfl, rfl, trivial⟩ ?_
      refine vc_seq ?_
      refine vc_seq ?_
      refine vc_region ?_
      refine vc_y rfl rfl (y_mv rfl) ?_
      refine vc_y rfl rfl (y_nei rfl rfl) ?_
      refine vc_end ?_
      refine vq_then ?_
      refine vc_keep [(1, _), (2, _), (3, _), (7, _), (8, _), (24, _)] ⟨rfl, rfl, rfl, rfl, rfl, rfl, trivial⟩ ?_
      refine vc_ifs rfl ?_ ?_
      · intro hc24
        try simp only [dn] at hc24
        refine vc_seq ?_
        refine vc_region ?_
        refine vc_y rfl rfl (y_mv rfl) ?_
        refine vc_y rfl rfl (y_eqi rfl rfl) ?_
        refine vc_e (e_mvb rfl rfl rfl ?_ ?_)
        · intro hg27
          try simp only [dn] at hg27
          refine vc_e (e_skip rfl rfl ?_)
          refine vc_e (e_skip rfl rfl ?_)
          refine vc_y rfl rfl (y_pickt rfl rfl) ?_
          refine vc_y rfl rfl (y_mv rfl) ?_
          refine vc_y rfl rfl ((by exact y_faz (k := 2) rfl Tryd.underlying25 rfl rfl Tryd.sizeOf23 rfl)) ?_
          refine vc_y rfl rfl ((by exact y_ld st 0 rfl Tryd.isAgg23 rfl rfl)) ?_
          refine vc_y rfl rfl (y_lensl rfl Tryd.underlying23) ?_
          refine vc_y rfl rfl (y_eqi rfl rfl) ?_
          refine vc_y rfl rfl (y_pickt rfl rfl) ?_
          refine vc_y rfl rfl (y_as rfl) ?_
          refine vc_end ?_
          refine vq_then ?_
          refine vc_keep [(6, _)] ⟨rfl, trivial⟩ ?_
          refine vc_ret ?_
          refine vq_then_ret ?_
          refine vq_ret1 st (.inl rfl) Tryd.results5 (.tmp rfl) ?_
          refine ⟨_, rfl, ?_⟩
          refine ⟨?_, st.chg⟩
          first | rfl | (simp; done) | (simp_all; done)
        · intro hg27
          exfalso; revert hg27; simp; try omega
      · intro hc24
        exfalso; revert hc24; simp; try omega
    · replace st := st.call0 cw
      refine vc_y rfl rfl (y_mv rfl) ?_
      refine vc_y rfl rfl (y_ext rfl rfl) ?_
      refine vc_y rfl rfl (y_ext rfl rfl) ?_
      refine vc_e (e_al (l := [_, _, _]) st rfl rfl Tryd.zeroValue25 rfl ?_)
      intro b7 w hb7 st
      refine vc_e (e_sts (vs := [_, _, _]) st 0 rfl rfl rfl rfl rfl Tryd.sizeOf25 rfl rfl (by first | (right; assumption) | (left; simp)) ?_)
      intro w st; dsimp only [setNth, wr] at st
      refine vc_y rfl rfl (y_as rfl) ?_
      refine vc_end ?_
      refine vq_then ?_
      refine vc_keep [(1, _), (2, _), (3, _), (7, _), (8, _)] ⟨rfl, rfl, rfl, rfl, rfl, trivial⟩ ?_
      refine vc_seq ?_
      refine vc_seq ?_
      refine vc_region ?_
      refine vc_y rfl rfl (y_mv rfl) ?_
      refine vc_y rfl rfl (y_nei rfl rfl) ?_
      refine vc_end ?_
      refine vq_then ?_
      refine vc_keep [(1, _), (2, _), (3, _), (7, _), (8, _), (24, _)] ⟨rfl, rfl, rfl, rfl, rfl, rfl, trivial⟩ ?_
      refine vc_ifs rfl ?_ ?_
      · intro hc24
        try simp only [dn] at hc24
        refine vc_seq ?_
        refine vc_region ?_
        refine vc_y rfl rfl (y_mv rfl) ?_
        refine vc_y rfl rfl (y_eqi rfl rfl) ?_
        refine vc_e (e_mvb rfl rfl rfl ?_ ?_)
        · intro hg27
          exfalso; revert hg27; simp; try omega
        · intro hg27
          try simp only [dn] at hg27
          refine vc_y rfl rfl (y_mv rfl) ?_
          refine vc_y rfl rfl (y_eqi rfl rfl) ?_
          refine vc_y rfl rfl (y_pickf rfl rfl) ?_
          refine vc_e (e_mvb rfl rfl rfl ?_ ?_)
          · intro hg31
            try simp only [dn] at hg31
            refine vc_y rfl rfl ((by exact y_faz (k := 2) rfl Tryd.underlying25 rfl rfl Tryd.sizeOf23 rfl)) ?_
            refine vc_y rfl rfl ((by exact y_ld st 0 rfl Tryd.isAgg23 rfl rfl)) ?_
            refine vc_y rfl rfl (y_lensl rfl Tryd.underlying23) ?_
            refine vc_y rfl rfl (y_eqi rfl rfl) ?_
            refine vc_y rfl rfl (y_pickt rfl rfl) ?_
            refine vc_y rfl rfl (y_as rfl) ?_
            refine vc_end ?_
            refine vq_then ?_
            refine vc_keep [(6, _)] ⟨rfl, trivial⟩ ?_
            refine vc_ret ?_
            refine vq_then_ret ?_
            refine vq_ret1 st (.inl rfl) Tryd.results5 (.tmp rfl) ?_
            refine ⟨_, rfl, ?_⟩
            refine ⟨?_, st.chg⟩
            first | rfl | (simp; done) | (simp_all; done)
          · intro hg31
            exfalso; revert hg31; simp; try omega
      · intro hc24
        exfalso; revert hc24; simp; try omega
    · replace st := St.pushR (r := .tree Sg (fun w => PgQ w (renP p fr tn) (pgL (renP p fr tn) gs gl gt gcs gcl gct) Sg)) st cw (holds_of hQ hQ.lt (fun a b h hk => h.kept hk)) hN.2
      refine vc_y rfl rfl (y_mv rfl) ?_
      refine vc_y rfl rfl (y_ext rfl rfl) ?_
      refine vc_y rfl rfl (y_ext rfl rfl) ?_
      refine vc_e (e_al (l := [_, _, _]) st rfl rfl Tryd.zeroValue25 rfl ?_)
      intro b7 w hb7 st
      refine vc_e (e_sts (vs := [_, _, _]) st 0 rfl rfl rfl rfl rfl Tryd.sizeOf25 rfl rfl (by first | (right; assumption) | (left; simp)) ?_)
      intro w st; dsimp only [setNth, wr] at st
      refine vc_y rfl rfl (y_as rfl) ?_
      refine vc_end ?_
      refine vq_then ?_
      refine vc_keep [(1, _), (2, _), (3, _), (7, _), (8, _)] ⟨rfl, rfl, rfl, rfl, rfl, trivial⟩ ?_
      refine vc_seq ?_
      refine vc_seq ?_
      refine vc_region ?_
      refine vc_y rfl rfl (y_mv rfl) ?_
      refine vc_y rfl rfl (y_nei rfl rfl) ?_
      refine vc_end ?_
      refine vq_then ?_
      refine vc_keep [(1, _), (2, _), (3, _), (7, _), (8, _), (24, _)] ⟨rfl, rfl, rfl, rfl, rfl, rfl, trivial⟩ ?_
      refine vc_ifs rfl ?_ ?_
      · intro hc24
        exfalso; revert hc24; simp; try omega
      · intro hc24
        try simp only [dn] at hc24
        refine vc_code_skip ?_
        refine vq_then ?_
        refine vc_keep [(1, _), (2, _), (3, _), (7, _)] ⟨rfl, rfl, rfl, rfl, trivial⟩ ?_
        refine vc_seq ?_
        refine vc_region ?_
        refine vc_y rfl rfl (y_as rfl) ?_
        refine vc_end ?_
        refine vq_then ?_
        refine vc_keep [(1, _), (2, _), (3, _), (7, _), (9, _)] ⟨rfl, rfl, rfl, rfl, rfl, trivial⟩ ?_
        refine vc_seq ?_
        refine vc_region ?_
        refine vc_y rfl rfl ((by exact y_lda (vs := [_, _, _]) st 2 rfl Tryd.isAgg25 Tryd.sizeOf25 rfl rfl)) ?_
        refine vc_e (e_call [_] rfl rfl Tryd.call15 rfl (names_any (S := (· < w0.heap.size)) p hok _ _ _ _ _ _ _ (fun b hb => Nat.lt_of_lt_of_le hb st.chg.size) (RowC.kept hSh (Same.of_nil st.chg)) (RowC.kept hL (Same.of_nil st.chg)) (hT.kept (Same.of_nil st.chg)) hlen) ?_)
        rintro _ w ⟨on, cn, rfl, ho1, hc⟩
        replace st := st.pushR (r := .own (.slice on (namesL p).length cn) 9 1 (namesL p).length ((namesL p).map str)) hc (own_up ho1 st.chg.size) (own_ge ho1)
        refine vc_y rfl rfl (y_as rfl) ?_
        refine vc_end ?_
        refine vq_then ?_
        refine vc_keep [(1, _), (2, _), (3, _), (7, _), (9, _), (10, _)] ⟨rfl, rfl, rfl, rfl, rfl, rfl, trivial⟩ ?_
        refine vc_seq ?_
        refine vc_seq ?_
        refine vc_region ?_
        refine vc_y rfl rfl (y_as rfl) ?_
        refine vc_end ?_
        refine vq_then ?_
        refine vc_keep [(1, _), (2, _), (3, _), (7, _), (9, _), (10, _), (11, _)] ⟨rfl, rfl, rfl, rfl, rfl, rfl, rfl, trivial⟩ ?_
        refine vc_block ?_
        refine vc_loop (w0 := w0) (M := []) (fun (z : Nat × Bool) => [(1, str fr), (2, str tn), (3, .pointer (some ⟨b3, 0, none⟩)), (7, .pointer (some ⟨b7, 0, none⟩)), (9, .bool z.2), (10, .slice on (namesL p).length cn), (11, .int .i64 (z.1 : Int))]) (fun _ => [.own (.slice on (namesL p).length cn) 9 1 (namesL p).length ((namesL p).map str), .blk b7 (.cells (pgL (renP p fr tn) gs gl gt gcs gcl gct).toArray 25 (0, 0)), .tree Sg (fun w => PgQ w (renP p fr tn) (pgL (renP p fr tn) gs gl gt gcs gcl gct) Sg), .blk b3 (.cells (pgL p os ol ot cs cl ct).toArray 25 (0, 0))]) (fun z _ => z.1 ≤ (namesL p).length ∧ z.2 = decide (fr ∈ (namesL p).take z.1)) (fun z => (namesL p).length - z.1) (0, false) ⟨rfl, rfl, rfl, rfl, rfl, rfl, rfl, trivial⟩ st ⟨by omega, by simp⟩ ?_
        clear st
        rintro ⟨i, th⟩ w ⟨hi, hth⟩ st
        dsimp only at *
        refine vc_seq ?_
        refine vc_seq ?_
        refine vc_region ?_
        refine vc_y rfl rfl (y_mv rfl) ?_
        refine vc_y rfl rfl (y_mv rfl) ?_
        refine vc_y rfl rfl (y_lensl rfl Tryd.underlying36) ?_
        refine vc_y rfl rfl (y_lss rfl rfl) ?_
        refine vc_end ?_
        refine vq_then ?_
        refine vc_keep [(1, _), (2, _), (3, _), (7, _), (9, _), (10, _), (11, _), (42, _)] ⟨rfl, rfl, rfl, rfl, rfl, rfl, rfl, rfl, trivial⟩ ?_
        refine vc_ifs rfl ?_ ?_
        · intro hc42
          try simp only [dn] at hc42
          obtain ⟨x, hx⟩ : ∃ x, (namesL p)[i]? = some x := ⟨_, List.getElem?_eq_getElem (by omega)⟩
          have stK := st
          obtain ⟨gn, cn2, hfm, -⟩ := own_form (st.res (i := 0) rfl) (by omega)
          simp only [Value.slice.injEq, true_and] at hfm
          obtain ⟨rfl, rfl⟩ := hfm
          have st := stK
          clear stK
          refine vc_code_skip ?_
          refine vq_then ?_
          refine vc_keep [(1, _), (2, _), (3, _), (7, _), (9, _), (10, _), (11, _)] ⟨rfl, rfl, rfl, rfl, rfl, rfl, rfl, trivial⟩ ?_
          refine vc_seq ?_
          refine vc_block ?_
          refine vc_seq ?_
          refine vc_region ?_
          refine vc_y rfl rfl (y_mv rfl) ?_
          refine vc_e (e_mvb rfl rfl rfl ?_ ?_)
          · intro hg46
            try simp only [dn] at hg46
            refine vc_e (e_skip rfl rfl ?_)
            refine vc_e (e_skip rfl rfl ?_)
            refine vc_e (e_skip rfl rfl ?_)
            refine vc_e (e_skip rfl rfl ?_)
            refine vc_e (e_skip rfl rfl ?_)
            refine vc_e (e_skip rfl rfl ?_)
            refine vc_y rfl rfl (y_pickt rfl rfl) ?_
            refine vc_y rfl rfl (y_as rfl) ?_
            refine vc_end ?_
            refine vq_then ?_
            refine vc_keep [(1, _), (2, _), (3, _), (7, _), (9, _), (10, _), (11, _)] ⟨rfl, rfl, rfl, rfl, rfl, rfl, rfl, trivial⟩ ?_
            refine vc_seq ?_
            refine vc_draw Tryd.mixed [(0, true), (1, true), (2, true), (3, true), (4, true), (5, true), (6, true), (7, true), (8, true), (9, true), (10, true), (11, true), (12, true), (13, true)] (fun w => St _ _ [.own (.slice (some ⟨gn, 0, none⟩) (namesL p).length cn) 9 1 (namesL p).length ((namesL p).map str), .blk b7 (.cells (pgL (renP p fr tn) gs gl gt gcs gcl gct).toArray 25 (0, 0)), .tree Sg (fun w => PgQ w (renP p fr tn) (pgL (renP p fr tn) gs gl gt gcs gcl gct) Sg), .blk b3 (.cells (pgL p os ol ot cs cl ct).toArray 25 (0, 0))] w) (by exact st) (by kernel_rfl) (by repeat (first | exact okQ_body | refine okQ_then ?_ | refine okQ_block ?_)) rfl (by kernel_rfl) ?_
            intro w cd; replace st := st.call0 cd; clear cd
            have hS : St _ _ [.own (.slice (some ⟨gn, 0, none⟩) (namesL p).length cn) 9 1 (namesL p).length ((namesL p).map str), .blk b7 (.cells (pgL (renP p fr tn) gs gl gt gcs gcl gct).toArray 25 (0, 0)), .tree Sg (fun w => PgQ w (renP p fr tn) (pgL (renP p fr tn) gs gl gt gcs gcl gct) Sg), .blk b3 (.cells (pgL p os ol ot cs cl ct).toArray 25 (0, 0))] w := (by exact st)
            refine vp_take rfl rfl rfl hS (fun w st => y_mv rfl) ?_
            refine vp_take rfl rfl rfl hS (fun w st => y_gtr rfl rfl) ?_
            refine vp_part rfl rfl rfl hS rfl ?_ ?_
            · intro hg56
              try simp only [dn] at hg56
              obtain ⟨x', hx'⟩ : ∃ x', (namesL p)[i - 1]? = some x' := ⟨_, List.getElem?_eq_getElem (by omega)⟩
              have hrise : x' < x := names_rise hx' (by rw [show i - 1 + 1 = i by omega]; exact hx)
              refine vp_take rfl rfl rfl hS (fun w st => y_mv rfl) ?_
              refine vp_take rfl rfl rfl hS (fun w st => y_mv rfl) ?_
              refine vp_take rfl rfl rfl hS (fun w st => y_sub rfl rfl (by omega : _ = ((i - 1 : Nat) : Int)) (by omega) (by omega)) ?_
              refine vp_take rfl rfl rfl hS (fun w st => (by exact y_ia0 (k := (i - 1)) rfl rfl Tryd.underlying36 Tryd.sizeOf9 rfl (by omega))) ?_
              refine vp_take rfl rfl rfl hS (fun w st => (by exact y_ldc rfl Tryd.isAgg9 (own_cell (st.res (i := 0) rfl) (by simp [hx'] : _ = some (str x'))))) ?_
              refine vp_take rfl rfl rfl hS (fun w st => y_mv rfl) ?_
              refine vp_take rfl rfl rfl hS (fun w st => y_mv rfl) ?_
              refine vp_take rfl rfl rfl hS (fun w st => (by exact y_ia0 (k := i) rfl rfl Tryd.underlying36 Tryd.sizeOf9 rfl (by omega))) ?_
              refine vp_take rfl rfl rfl hS (fun w st => (by exact y_ldc rfl Tryd.isAgg9 (own_cell (st.res (i := 0) rfl) (by simp [hx] : _ = some (str x))))) ?_
              refine vp_take rfl rfl rfl hS (fun w st => y_ges rfl rfl) ?_
              refine vp_take rfl rfl rfl hS (fun w st => y_pickt rfl rfl) ?_
              refine vp_end ?_
              refine vq_then ?_
              refine vc_keep [(1, _), (2, _), (3, _), (7, _), (9, _), (10, _), (11, _), (67, _)] ⟨rfl, rfl, rfl, rfl, rfl, rfl, rfl, rfl, trivial⟩ ?_
              refine vc_ifs rfl ?_ ?_
              · intro hc67
                exfalso; simp [hrise] at hc67
              · intro hc67
                try simp only [dn] at hc67
                refine vc_code_skip ?_
                refine vq_block ?_
                refine vq_then ?_
                refine vc_keep [(1, _), (2, _), (3, _), (7, _), (9, _), (10, _), (11, _)] ⟨rfl, rfl, rfl, rfl, rfl, rfl, rfl, trivial⟩ ?_
                refine vc_region ?_
                refine vc_y rfl rfl (y_mv rfl) ?_
                refine vc_y rfl rfl (y_add rfl rfl (by omega : _ = ((i + 1 : Nat) : Int)) (by omega) (by omega)) ?_
                refine vc_y rfl rfl (y_as rfl) ?_
                refine vc_end ?_
                refine vq_again (i + 1, true)  ⟨rfl, rfl, rfl, rfl, rfl, rfl, rfl, trivial⟩ st ?_ ?_
                · exact ⟨by dsimp only; omega, by dsimp only; rw [take_mem hx, ← hth]; simp_all⟩
                · dsimp only; omega
            · intro hg56
              try simp only [dn] at hg56
              refine vp_skip rfl rfl rfl hS ?_
              refine vp_skip rfl rfl rfl hS ?_
              refine vp_skip rfl rfl rfl hS ?_
              refine vp_skip rfl rfl rfl hS ?_
              refine vp_skip rfl rfl rfl hS ?_
              refine vp_skip rfl rfl rfl hS ?_
              refine vp_skip rfl rfl rfl hS ?_
              refine vp_skip rfl rfl rfl hS ?_
              refine vp_skip rfl rfl rfl hS ?_
              refine vp_skip rfl rfl rfl hS ?_
              refine vp_take rfl rfl rfl hS (fun w st => y_pickf rfl rfl) ?_
              refine vp_end ?_
              refine vq_then ?_
              refine vc_keep [(1, _), (2, _), (3, _), (7, _), (9, _), (10, _), (11, _), (67, _)] ⟨rfl, rfl, rfl, rfl, rfl, rfl, rfl, rfl, trivial⟩ ?_
              refine vc_iff rfl ?_
              refine vc_code_skip ?_
              refine vq_block ?_
              refine vq_then ?_
              refine vc_keep [(1, _), (2, _), (3, _), (7, _), (9, _), (10, _), (11, _)] ⟨rfl, rfl, rfl, rfl, rfl, rfl, rfl, trivial⟩ ?_
              refine vc_region ?_
              refine vc_y rfl rfl (y_mv rfl) ?_
              refine vc_y rfl rfl (y_add rfl rfl (by omega : _ = ((i + 1 : Nat) : Int)) (by omega) (by omega)) ?_
              refine vc_y rfl rfl (y_as rfl) ?_
              refine vc_end ?_
              refine vq_again (i + 1, true)  ⟨rfl, rfl, rfl, rfl, rfl, rfl, rfl, trivial⟩ st ?_ ?_
              · exact ⟨by dsimp only; omega, by dsimp only; rw [take_mem hx, ← hth]; simp_all⟩
              · dsimp only; omega
          · intro hg46
            try simp only [dn] at hg46
            refine vc_y rfl rfl (y_mv rfl) ?_
            refine vc_y rfl rfl (y_mv rfl) ?_
            refine vc_y rfl rfl ((by exact y_ia0 (k := i) rfl rfl Tryd.underlying36 Tryd.sizeOf9 rfl (by omega))) ?_
            refine vc_y rfl rfl ((by exact y_ldc rfl Tryd.isAgg9 (own_cell (st.res (i := 0) rfl) (by simp [hx] : _ = some (str x))))) ?_
            refine vc_y rfl rfl (y_mv rfl) ?_
            refine vc_y rfl rfl (y_eqs rfl rfl) ?_
            refine vc_y rfl rfl (y_pickf rfl rfl) ?_
            refine vc_y rfl rfl (y_as rfl) ?_
            refine vc_end ?_
            refine vq_then ?_
            refine vc_keep [(1, _), (2, _), (3, _), (7, _), (9, _), (10, _), (11, _)] ⟨rfl, rfl, rfl, rfl, rfl, rfl, rfl, trivial⟩ ?_
            refine vc_seq ?_
            refine vc_draw Tryd.mixed [(0, true), (1, true), (2, true), (3, true), (4, true), (5, true), (6, true), (7, true), (8, true), (9, true), (10, true), (11, true), (12, true), (13, true)] (fun w => St _ _ [.own (.slice (some ⟨gn, 0, none⟩) (namesL p).length cn) 9 1 (namesL p).length ((namesL p).map str), .blk b7 (.cells (pgL (renP p fr tn) gs gl gt gcs gcl gct).toArray 25 (0, 0)), .tree Sg (fun w => PgQ w (renP p fr tn) (pgL (renP p fr tn) gs gl gt gcs gcl gct) Sg), .blk b3 (.cells (pgL p os ol ot cs cl ct).toArray 25 (0, 0))] w) (by exact st) (by kernel_rfl) (by repeat (first | exact okQ_body | refine okQ_then ?_ | refine okQ_block ?_)) rfl (by kernel_rfl) ?_
            intro w cd; replace st := st.call0 cd; clear cd
            have hS : St _ _ [.own (.slice (some ⟨gn, 0, none⟩) (namesL p).length cn) 9 1 (namesL p).length ((namesL p).map str), .blk b7 (.cells (pgL (renP p fr tn) gs gl gt gcs gcl gct).toArray 25 (0, 0)), .tree Sg (fun w => PgQ w (renP p fr tn) (pgL (renP p fr tn) gs gl gt gcs gcl gct) Sg), .blk b3 (.cells (pgL p os ol ot cs cl ct).toArray 25 (0, 0))] w := (by exact st)
            refine vp_take rfl rfl rfl hS (fun w st => y_mv rfl) ?_
            refine vp_take rfl rfl rfl hS (fun w st => y_gtr rfl rfl) ?_
            refine vp_part rfl rfl rfl hS rfl ?_ ?_
            · intro hg56
              try simp only [dn] at hg56
              obtain ⟨x', hx'⟩ : ∃ x', (namesL p)[i - 1]? = some x' := ⟨_, List.getElem?_eq_getElem (by omega)⟩
              have hrise : x' < x := names_rise hx' (by rw [show i - 1 + 1 = i by omega]; exact hx)
              refine vp_take rfl rfl rfl hS (fun w st => y_mv rfl) ?_
              refine vp_take rfl rfl rfl hS (fun w st => y_mv rfl) ?_
              refine vp_take rfl rfl rfl hS (fun w st => y_sub rfl rfl (by omega : _ = ((i - 1 : Nat) : Int)) (by omega) (by omega)) ?_
              refine vp_take rfl rfl rfl hS (fun w st => (by exact y_ia0 (k := (i - 1)) rfl rfl Tryd.underlying36 Tryd.sizeOf9 rfl (by omega))) ?_
              refine vp_take rfl rfl rfl hS (fun w st => (by exact y_ldc rfl Tryd.isAgg9 (own_cell (st.res (i := 0) rfl) (by simp [hx'] : _ = some (str x'))))) ?_
              refine vp_take rfl rfl rfl hS (fun w st => y_mv rfl) ?_
              refine vp_take rfl rfl rfl hS (fun w st => y_mv rfl) ?_
              refine vp_take rfl rfl rfl hS (fun w st => (by exact y_ia0 (k := i) rfl rfl Tryd.underlying36 Tryd.sizeOf9 rfl (by omega))) ?_
              refine vp_take rfl rfl rfl hS (fun w st => (by exact y_ldc rfl Tryd.isAgg9 (own_cell (st.res (i := 0) rfl) (by simp [hx] : _ = some (str x))))) ?_
              refine vp_take rfl rfl rfl hS (fun w st => y_ges rfl rfl) ?_
              refine vp_take rfl rfl rfl hS (fun w st => y_pickt rfl rfl) ?_
              refine vp_end ?_
              refine vq_then ?_
              refine vc_keep [(1, _), (2, _), (3, _), (7, _), (9, _), (10, _), (11, _), (67, _)] ⟨rfl, rfl, rfl, rfl, rfl, rfl, rfl, rfl, trivial⟩ ?_
              refine vc_ifs rfl ?_ ?_
              · intro hc67
                exfalso; simp [hrise] at hc67
              · intro hc67
                try simp only [dn] at hc67
                refine vc_code_skip ?_
                refine vq_block ?_
                refine vq_then ?_
                refine vc_keep [(1, _), (2, _), (3, _), (7, _), (9, _), (10, _), (11, _)] ⟨rfl, rfl, rfl, rfl, rfl, rfl, rfl, trivial⟩ ?_
                refine vc_region ?_
                refine vc_y rfl rfl (y_mv rfl) ?_
                refine vc_y rfl rfl (y_add rfl rfl (by omega : _ = ((i + 1 : Nat) : Int)) (by omega) (by omega)) ?_
                refine vc_y rfl rfl (y_as rfl) ?_
                refine vc_end ?_
                refine vq_again (i + 1, decide (x = fr))  ⟨rfl, rfl, rfl, rfl, rfl, rfl, rfl, trivial⟩ st ?_ ?_
                · exact ⟨by dsimp only; omega, by dsimp only; rw [take_mem hx, ← hth]; simp_all⟩
                · dsimp only; omega
            · intro hg56
              try simp only [dn] at hg56
              refine vp_skip rfl rfl rfl hS ?_
              refine vp_skip rfl rfl rfl hS ?_
              refine vp_skip rfl rfl rfl hS ?_
              refine vp_skip rfl rfl rfl hS ?_
              refine vp_skip rfl rfl rfl hS ?_
              refine vp_skip rfl rfl rfl hS ?_
              refine vp_skip rfl rfl rfl hS ?_
              refine vp_skip rfl rfl rfl hS ?_
              refine vp_skip rfl rfl rfl hS ?_
              refine vp_skip rfl rfl rfl hS ?_
              refine vp_take rfl rfl rfl hS (fun w st => y_pickf rfl rfl) ?_
              refine vp_end ?_
              refine vq_then ?_
              refine vc_keep [(1, _), (2, _), (3, _), (7, _), (9, _), (10, _), (11, _), (67, _)] ⟨rfl, rfl, rfl, rfl, rfl, rfl, rfl, rfl, trivial⟩ ?_
              refine vc_iff rfl ?_
              refine vc_code_skip ?_
              refine vq_block ?_
              refine vq_then ?_
              refine vc_keep [(1, _), (2, _), (3, _), (7, _), (9, _), (10, _), (11, _)] ⟨rfl, rfl, rfl, rfl, rfl, rfl, rfl, trivial⟩ ?_
              refine vc_region ?_
              refine vc_y rfl rfl (y_mv rfl) ?_
              refine vc_y rfl rfl (y_add rfl rfl (by omega : _ = ((i + 1 : Nat) : Int)) (by omega) (by omega)) ?_
              refine vc_y rfl rfl (y_as rfl) ?_
              refine vc_end ?_
              refine vq_again (i + 1, decide (x = fr))  ⟨rfl, rfl, rfl, rfl, rfl, rfl, rfl, trivial⟩ st ?_ ?_
              · exact ⟨by dsimp only; omega, by dsimp only; rw [take_mem hx, ← hth]; simp_all⟩
              · dsimp only; omega
        · intro hc42
          try simp only [dn] at hc42
          obtain rfl : i = (namesL p).length := by omega
          rw [List.take_length] at hth
          refine vc_exit ?_
          refine vq_then_exit ?_
          refine vq_then_exit ?_
          refine vq_block_exit ?_
          refine vq_then ?_
          refine vc_keep [(1, _), (2, _), (3, _), (7, _), (9, _), (10, _)] ⟨rfl, rfl, rfl, rfl, rfl, rfl, trivial⟩ ?_
          refine vc_seq ?_
          refine vc_region ?_
          refine vc_y rfl rfl ((by exact y_lda (vs := [_, _, _]) st 1 rfl Tryd.isAgg25 Tryd.sizeOf25 rfl rfl)) ?_
          refine vc_e (e_call [_] rfl rfl Tryd.call15 rfl (names_any (S := (· < _)) (renP p fr tn) hok2 _ _ _ _ _ _ _ (fun b hb => hb) (PgQ.rows (st.res (i := 2) rfl).1).1 (PgQ.rows (st.res (i := 2) rfl).1).2.1 (PgQ.rows (st.res (i := 2) rfl).1).2.2 hlen2) ?_)
          rintro _ w ⟨om, cm, rfl, ho2, hc⟩
          replace st := st.call0 hc
          refine vc_y rfl rfl (y_as rfl) ?_
          refine vc_end ?_
          refine vq_then ?_
          refine vc_keep [(1, _), (2, _), (3, _), (7, _), (9, _), (10, _), (12, _)] ⟨rfl, rfl, rfl, rfl, rfl, rfl, rfl, trivial⟩ ?_
          refine vc_seq ?_
          refine vc_seq ?_
          refine vc_region ?_
          refine vc_y rfl rfl (y_mv rfl) ?_
          refine vc_y rfl rfl (y_lensl rfl Tryd.underlying36) ?_
          refine vc_y rfl rfl (y_mv rfl) ?_
          refine vc_y rfl rfl (y_lensl rfl Tryd.underlying36) ?_
          refine vc_y rfl rfl (y_nei rfl rfl) ?_
          refine vc_end ?_
          refine vq_then ?_
          refine vc_keep [(1, _), (2, _), (3, _), (7, _), (9, _), (74, _)] ⟨rfl, rfl, rfl, rfl, rfl, rfl, trivial⟩ ?_
          refine vc_ifs rfl ?_ ?_
          · intro hc74
            exfalso; revert hc74; rw [ren_len ho]; simp
          · intro hc74
            try simp only [dn] at hc74
            refine vc_code_skip ?_
            refine vq_then ?_
            refine vc_keep [(1, _), (2, _), (3, _), (7, _), (9, _)] ⟨rfl, rfl, rfl, rfl, rfl, trivial⟩ ?_
            refine vc_seq ?_
            refine vc_seq ?_
            refine vc_region ?_
            refine vc_y rfl rfl (y_mv rfl) ?_
            refine vc_y rfl rfl (y_not rfl) ?_
            refine vc_end ?_
            refine vq_then ?_
            refine vc_keep [(1, _), (2, _), (3, _), (7, _), (76, _)] ⟨rfl, rfl, rfl, rfl, rfl, trivial⟩ ?_
            refine vc_ifs rfl ?_ ?_
            · intro hc76
              try simp only [dn] at hc76
              have hnf : fr ∉ namesL p := by simp_all
              refine vc_seq ?_
              refine vc_region ?_
              refine vc_y rfl rfl ((by exact y_lda (vs := [_, _, _]) st 3 rfl Tryd.isAgg25 Tryd.sizeOf25 rfl rfl)) ?_
              refine vc_y rfl rfl ((by exact y_lda (vs := [_, _, _]) st 1 rfl Tryd.isAgg25 Tryd.sizeOf25 rfl rfl)) ?_
              refine vc_e (e_call [_, _] rfl rfl Tryd.call10 rfl (rexactly_any p (renP p fr tn) hok _ _ _ _ _ _ _ _ _ _ _ _ _ (RowC.mono (RowC.kept hSh (Same.of_nil st.chg)) (fun b hb => Nat.lt_of_lt_of_le hb st.chg.size)) (RowC.mono (RowC.kept hL (Same.of_nil st.chg)) (fun b hb => Nat.lt_of_lt_of_le hb st.chg.size)) ((hT.kept (Same.of_nil st.chg)).mono (fun b hb => Nat.lt_of_lt_of_le hb st.chg.size)) (PgQ.rows (st.res (i := 2) rfl).1).1 (PgQ.rows (st.res (i := 2) rfl).1).2.1 (PgQ.rows (st.res (i := 2) rfl).1).2.2) ?_)
              rintro _ w ⟨rfl, cw⟩
              replace st := st.call0 cw
              rw [ren_none hp hnf, exactP_refl]
              refine vc_y rfl rfl (y_as rfl) ?_
              refine vc_end ?_
              refine vq_then ?_
              refine vc_keep [(6, _)] ⟨rfl, trivial⟩ ?_
              refine vc_ret ?_
              refine vq_then_ret ?_
              refine vq_ret1 st (.inl rfl) Tryd.results5 (.tmp rfl) ?_
              refine ⟨_, rfl, ?_⟩
              refine ⟨?_, st.chg⟩
              first | rfl | (simp; done) | (simp_all; done)
            · intro hc76
              try simp only [dn] at hc76
              have hf : fr ∈ namesL p := by simp_all
              refine vc_code_skip ?_
              refine vq_then ?_
              refine vc_keep [(1, _), (2, _), (3, _), (7, _)] ⟨rfl, rfl, rfl, rfl, trivial⟩ ?_
              refine vc_seq ?_
              refine vc_region ?_
              refine vc_y rfl rfl ((by exact y_lda (vs := [_, _, _]) st 1 rfl Tryd.isAgg25 Tryd.sizeOf25 rfl rfl)) ?_
              refine vc_y rfl rfl (y_mv rfl) ?_
              refine vc_y rfl rfl (y_mv rfl) ?_
              refine vc_e (e_call [_, _, _] rfl rfl Tryd.call14 rfl (rename_any (renP p fr tn) hok2 tn fr _ _ _ _ _ _ _ (PgQ.rows (st.res (i := 2) rfl).1).1 (PgQ.rows (st.res (i := 2) rfl).1).2.1 (PgQ.rows (st.res (i := 2) rfl).1).2.2 (Nat.le_refl _) (hsg.kept st.chg) hlen2) ?_)
              rintro _ w ⟨hR, cw⟩
              rcases hR with ⟨h9, -⟩ | ⟨-, h9, -⟩ | ⟨-, -, hs9, hl9, ht9, hcs9, hcl9, hct9, Sh, rfl, hQ2, hN2⟩
              · exact absurd h9 (by rw [ren_right hp ho]; simp)
              · exact absurd h9 (by rw [ren_back hp ho hf]; simp)
              rw [ren_there hp ho hf] at hQ2 ⊢
              replace st := St.pushR (r := .tree Sh (fun w => PgQ w p (pgL p hs9 hl9 ht9 hcs9 hcl9 hct9) Sh)) st cw (holds_of hQ2 hQ2.lt (fun a b h hk => h.kept hk)) hN2.2
              refine vc_y rfl rfl (y_mv rfl) ?_
              refine vc_y rfl rfl (y_ext rfl rfl) ?_
              refine vc_y rfl rfl (y_ext rfl rfl) ?_
              refine vc_e (e_al (l := [_, _, _]) st rfl rfl Tryd.zeroValue25 rfl ?_)
              intro b13 w hb13 st
              refine vc_e (e_sts (vs := [_, _, _]) st 0 rfl rfl rfl rfl rfl Tryd.sizeOf25 rfl rfl (by first | (right; assumption) | (left; simp)) ?_)
              intro w st; dsimp only [setNth, wr] at st
              refine vc_y rfl rfl (y_as rfl) ?_
              refine vc_end ?_
              refine vq_then ?_
              refine vc_keep [(3, _), (7, _), (8, _), (13, _)] ⟨rfl, rfl, rfl, rfl, trivial⟩ ?_
              refine vc_seq ?_
              refine vc_region ?_
              refine vc_y rfl rfl (y_mv rfl) ?_
              refine vc_y rfl rfl (y_eqi rfl rfl) ?_
              refine vc_e (e_mvb rfl rfl rfl ?_ ?_)
              · intro hg89
                try simp only [dn] at hg89
                refine vc_y rfl rfl ((by exact y_lda (vs := [_, _, _]) st 0 rfl Tryd.isAgg25 Tryd.sizeOf25 rfl rfl)) ?_
                refine vc_y rfl rfl ((by exact y_lda (vs := [_, _, _]) st 5 rfl Tryd.isAgg25 Tryd.sizeOf25 rfl rfl)) ?_
                refine vc_e (e_call [_, _] rfl rfl Tryd.call10 rfl (rexactly_any p p hok _ _ _ _ _ _ _ _ _ _ _ _ _ (PgQ.rows (st.res (i := 1) rfl).1).1 (PgQ.rows (st.res (i := 1) rfl).1).2.1 (PgQ.rows (st.res (i := 1) rfl).1).2.2 (RowC.mono (RowC.kept hSh (Same.of_nil st.chg)) (fun b hb => Nat.lt_of_lt_of_le hb st.chg.size)) (RowC.mono (RowC.kept hL (Same.of_nil st.chg)) (fun b hb => Nat.lt_of_lt_of_le hb st.chg.size)) ((hT.kept (Same.of_nil st.chg)).mono (fun b hb => Nat.lt_of_lt_of_le hb st.chg.size))) ?_)
                rintro _ w ⟨rfl, cw⟩
                replace st := st.call0 cw
                rw [exactP_refl]
                refine vc_y rfl rfl (y_pickt rfl rfl) ?_
                refine vc_e (e_mvb rfl rfl rfl ?_ ?_)
                · intro hg94
                  try simp only [dn] at hg94
                  refine vc_y rfl rfl ((by exact y_lda (vs := [_, _, _]) st 5 rfl Tryd.isAgg25 Tryd.sizeOf25 rfl rfl)) ?_
                  refine vc_y rfl rfl ((by exact y_lda (vs := [_, _, _]) st 3 rfl Tryd.isAgg25 Tryd.sizeOf25 rfl rfl)) ?_
                  refine vc_e (e_call [_, _] rfl rfl Tryd.call13 rfl (rsamePg_any p (renP p fr tn) hok _ _ _ _ _ _ _ _ _ _ _ _ _ (RowC.mono (RowC.kept hSh (Same.of_nil st.chg)) (fun b hb => Nat.lt_of_lt_of_le hb st.chg.size)) (RowC.mono (RowC.kept hL (Same.of_nil st.chg)) (fun b hb => Nat.lt_of_lt_of_le hb st.chg.size)) ((hT.kept (Same.of_nil st.chg)).mono (fun b hb => Nat.lt_of_lt_of_le hb st.chg.size)) (PgQ.rows (st.res (i := 4) rfl).1).1 (PgQ.rows (st.res (i := 4) rfl).1).2.1 (PgQ.rows (st.res (i := 4) rfl).1).2.2) ?_)
                  rintro _ w ⟨rfl, cw⟩
                  replace st := st.call0 cw
                  rw [ren_other ho hf]
                  refine vc_y rfl rfl (y_not rfl) ?_
                  refine vc_y rfl rfl (y_pickt rfl rfl) ?_
                  refine vc_y rfl rfl (y_as rfl) ?_
                  refine vc_end ?_
                  refine vq_then ?_
                  refine vc_keep [(6, _)] ⟨rfl, trivial⟩ ?_
                  refine vc_ret ?_
                  refine vq_ret1 st (.inl rfl) Tryd.results5 (.tmp rfl) ?_
                  refine ⟨_, rfl, ?_⟩
                  refine ⟨?_, st.chg⟩
                  first | rfl | (simp; done) | (simp_all; done)
                · intro hg94
                  exfalso; revert hg94; simp; try omega
              · intro hg89
                exfalso; revert hg89; simp; try omega

end Go.Proofs.YtnmhlpnapgojjaaDoor

