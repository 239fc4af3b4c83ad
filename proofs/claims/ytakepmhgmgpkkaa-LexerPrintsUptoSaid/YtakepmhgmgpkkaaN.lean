/- A part of the proof: contracts of functions and plain laws; each theorem says its own conditions. -/
import Derived.Test.YtakepmhgmgpkkaaM
import Derived.Test.YtakepmhgmgpkkaaSxMore2
namespace Go.Proofs.Ytakepmhgmgpkkaa
open Go.ChangeShapes Go.WideShapes Go.ChangeAt Go.RowKit
open Go.ChangeMaps (open_string shut_string)
open Sx LexS
set_option linter.unusedVariables false
set_option linter.unusedSimpArgs false
theorem scanA_len : ∀ (n : Nat) (r : List UInt8) (i : Nat), r.length < n → (scanA r i).1.length ≤ r.length := by
  intro n
  induction n with
  | zero => intro r i h; omega
  | succ n ih =>
    intro r i hn
    rcases Nat.lt_or_ge (skip r) r.length with hk | hk
    · cases hx : tokAt (r.drop (skip r)) (i + skip r) with
      | bad rule q => rw [scanA_bad hk hx]; simp
      | tok x =>
        rw [scanA_tok hk hx]
        have h1 := (tok_len hx).1
        have h := ih (r.drop (skip r + x.text.length)) (i + skip r + x.text.length) (by simp; omega)
        simp at h ⊢
        omega
    · rw [scanA_end hk]; simp
theorem scanRes_len (s : List UInt8) : (scanRes s).1.length ≤ 65536 := by
  unfold scanRes
  split
  · simp
  · split
    · have := scanA_len (s.length + 1) s 0 (Nat.lt_succ_self _)
      rw [front_eq] at *
      dsimp only; omega
    · simp
theorem tv_one (A : List TV) : ∀ u ∈ A.flatMap tvL, u.oneCell' = true := by
  intro u hu
  obtain ⟨x, _, hx⟩ := List.mem_flatMap.1 hu
  simp only [tvL, tok4, List.mem_cons, List.not_mem_nil, or_false] at hx
  rcases hx with rfl | rfl | rfl | rfl <;> rfl
theorem tv_len (A : List TV) : (A.flatMap tvL).length = A.length * 4 := by
  induction A with
  | nil => rfl
  | cons x r ih => simp only [List.flatMap_cons, List.length_append, ih, List.length_cons]; show 4 + _ = _; omega
/-- 'Scan', its tokens named -/
theorem scan_eq (s : List UInt8) (T : List Tok) (hT : (scanRes s).1 = T) (e a r : Nat) (he : (scanRes s).2 = (e, a, r)) (w : World) : Ret Try.prog 21 [str s] w fun v w' => Chg [] w w' ∧ ∃ oa cap, v = .tuple [.slice oa T.length cap, .int .i64 (e : Int), .agg [.int .i64 (a : Int), .int .i64 (r : Int)].toArray].toArray ∧
    w'.ownsRow w.heap.size 33 4 (.slice oa T.length cap) T.length (toksL T) :=
  (scan_any s w).mono fun v w' ⟨c, oa, cap, hv, ho⟩ => by
    subst hT
    rw [he] at hv
    exact ⟨c, oa, cap, hv, ho⟩

set_option maxHeartbeats 1000000 in
theorem lawLexerOwn (l : List UInt8) (hl : l.length ≤ maxLen) (w : World) : Ret Try.prog 7 [str l] w fun v w' => v = .bool true ∧ Chg [] w w' := by
  refine ret_of [_] Try.func7 rfl Try.ntmps7 rfl ?_
  have st := St.init w []
  obtain ⟨T, hT⟩ : ∃ T, (scanRes l).1 = T := ⟨_, rfl⟩
  obtain ⟨e, a, r, he⟩ : ∃ e a r, (scanRes l).2 = (e, a, r) := ⟨_, _, _, rfl⟩
  have hlen := scanRes_len l
  rw [hT] at hlen
  refine vc_seq ?_
  refine vc_region ?_
  refine vc_y rfl rfl (y_as rfl) ?_
  refine vc_end ?_
  refine vq_then ?_
  refine vc_keep [(0, _)] ⟨rfl, trivial⟩ ?_
  refine vc_seq ?_
  refine vc_seq ?_
  refine vc_region ?_
  refine vc_e (e_call [] rfl rfl Try.call20 rfl (begins_any _) ?_)
  rintro _ w ⟨rfl, cb⟩
  replace st := st.call0 cb
  refine vc_y rfl rfl (y_not rfl) ?_
  refine vc_end ?_
  refine vq_then ?_
  refine vc_keep [(0, _), (12, _)] ⟨rfl, rfl, trivial⟩ ?_
  refine vc_ifs rfl ?_ ?_
  · intro hc12
    simp at hc12
  · intro hc12
    try simp only [decide_eq_true_eq, decide_eq_false_iff_not, Bool.not_eq_true', Bool.not_eq_false', Bool.not_eq_true, Bool.not_eq_false, Int.not_lt, Int.not_le, Nat.not_lt, Nat.not_le, Bool.not_true, Bool.not_false, Bool.true_eq_false, Bool.false_eq_true] at hc12
    refine vc_code_skip ?_
    refine vq_then ?_
    refine vc_keep [(0, _)] ⟨rfl, trivial⟩ ?_
    refine vc_seq ?_
    refine vc_region ?_
    refine vc_y rfl rfl (y_mv rfl) ?_
    refine vc_e (e_call [_] rfl rfl Try.call21 rfl (scan_eq l T hT e a r he _) ?_)
    rintro _ w ⟨cw, oa, ca, rfl, how⟩
    replace st := st.pushOwn cw how
    refine vc_y rfl rfl (y_mv rfl) ?_
    refine vc_y rfl rfl (y_ext rfl rfl) ?_
    refine vc_y rfl rfl (y_ext rfl rfl) ?_
    refine vc_y rfl rfl (y_ext rfl rfl) ?_
    refine vc_e (e_al (l := [_, _]) st rfl rfl Try.zeroValue27 rfl ?_)
    intro b5 w hb5 st
    refine vc_y rfl rfl (y_as rfl) ?_
    refine vc_y rfl rfl (y_as rfl) ?_
    first
    | refine vc_e (e_sts (vs := [_, _]) st 0 rfl rfl rfl rfl rfl Try.sizeOf27 rfl rfl (by first | (right; assumption) | (left; simp)) ?_)
    | refine vc_e (e_sts (vs := [_, _]) st 1 rfl rfl rfl rfl rfl Try.sizeOf27 rfl rfl (by first | (right; assumption) | (left; simp)) ?_)
    | refine vc_e (e_sts (vs := [_, _]) st 2 rfl rfl rfl rfl rfl Try.sizeOf27 rfl rfl (by first | (right; assumption) | (left; simp)) ?_)
    | refine vc_e (e_sts (vs := [_, _]) st 3 rfl rfl rfl rfl rfl Try.sizeOf27 rfl rfl (by first | (right; assumption) | (left; simp)) ?_)
    | refine vc_e (e_sts (vs := [_, _]) st 4 rfl rfl rfl rfl rfl Try.sizeOf27 rfl rfl (by first | (right; assumption) | (left; simp)) ?_)
    intro w st; dsimp only [setNth, wr] at st
    refine vc_end ?_
    refine vq_then ?_
    refine vc_keep [(0, _), (3, _), (4, _)] ⟨rfl, rfl, rfl, trivial⟩ ?_
    refine vc_seq ?_
    refine vc_region ?_
    refine vc_e (e_bs0 st rfl rfl Try.underlying24 Try.sizeOf33 ?_)
    intro b19 w hb19 st
    refine vc_y rfl rfl (y_mv rfl) ?_
    refine vc_e (e_appc (l := toksL T) (bytes := 40) st 0 rfl rfl rfl rfl rfl (own_rd (st.res (i := 2) rfl)) Try.underlying24 Try.info33 rfl rfl rfl rfl rfl (by rw [toksL_tv, tv_len]; simp) (by rw [toksL_tv]; exact tv_one _) (by unfold maxLen; omega) (by omega) (Nat.zero_add _) (List.nil_append _) ?_)
    intro ok ck w st; dsimp only [setNth] at st
    refine vc_y rfl rfl (y_as rfl) ?_
    refine vc_end ?_
    refine vq_then ?_
    refine vc_keep [(0, _), (3, _), (4, _), (6, _)] ⟨rfl, rfl, rfl, rfl, trivial⟩ ?_
    refine vc_seq ?_
    refine vc_seq ?_
    refine vc_region ?_
    refine vc_y rfl rfl (y_as rfl) ?_
    refine vc_end ?_
    refine vq_then ?_
    refine vc_keep [(0, _), (3, _), (4, _), (6, _), (7, _)] ⟨rfl, rfl, rfl, rfl, rfl, trivial⟩ ?_
    refine vc_block ?_
    refine vc_loop (w0 := _) (M := _) (fun (x : Nat × List Value) => [(0, str l), (3, .slice oa T.length ca), (4, .int .i64 (e : Int)), (6, .slice ok T.length ck), (7, .int .i64 (x.1 : Int))]) (fun x => [.own (.slice ok T.length ck) 33 4 T.length (toksL T), .own (.slice oa T.length ca) 33 4 T.length x.2]) (fun x w' => x.1 ≤ T.length ∧ x.2.length = T.length * 4) (fun x => T.length - x.1) (0, toksL T) ⟨rfl, rfl, rfl, rfl, rfl, trivial⟩ (st.drop (by repeat (first | exact List.Sublist.slnil | apply List.Sublist.cons_cons | apply List.Sublist.cons))) ⟨by simp, by rw [toksL_tv, tv_len]; simp⟩ ?_
    rintro ⟨j, xs⟩ w ⟨hj, hxs⟩ st
    dsimp only at *
    refine vc_seq ?_
    refine vc_seq ?_
    refine vc_region ?_
    refine vc_y rfl rfl (y_mv rfl) ?_
    refine vc_y rfl rfl (y_mv rfl) ?_
    refine vc_y rfl rfl (y_lensl rfl Try.underlying24) ?_
    refine vc_y rfl rfl (y_lss rfl rfl) ?_
    refine vc_end ?_
    refine vq_then ?_
    refine vc_keep [(0, _), (3, _), (4, _), (6, _), (7, _), (25, _)] ⟨rfl, rfl, rfl, rfl, rfl, rfl, trivial⟩ ?_
    refine vc_ifs rfl ?_ ?_
    · intro hc25
      try simp only [decide_eq_true_eq, decide_eq_false_iff_not, Bool.not_eq_true', Bool.not_eq_false', Bool.not_eq_true, Bool.not_eq_false, Int.not_lt, Int.not_le, Nat.not_lt, Nat.not_le, Bool.not_true, Bool.not_false, Bool.true_eq_false, Bool.false_eq_true] at hc25
      obtain ⟨g, cap', e, _⟩ := own_form (st.res (i := 1) rfl) (by omega)
      simp only [Value.slice.injEq] at e
      obtain ⟨rfl, -, rfl⟩ := e
      refine vc_code_skip ?_
      refine vq_then ?_
      refine vc_keep [(0, _), (3, _), (4, _), (6, _), (7, _)] ⟨rfl, rfl, rfl, rfl, rfl, trivial⟩ ?_
      refine vc_seq ?_
      refine vc_block ?_
      refine vc_region ?_
      refine vc_y rfl rfl (y_mv rfl) ?_
      refine vc_y rfl rfl (y_mv rfl) ?_
      refine vc_y rfl rfl (y_bld (.agg #[_, _, _, _]) [(0, _), (1, _), (3, _)] rfl (fun w => by simp [Instr.build, go_sem] <;> repeat' constructor)) ?_
      refine vc_y rfl rfl ((by first | exact y_ia0 (k := j) rfl rfl Try.underlying24 Try.sizeOf33 rfl (by omega) | exact y_ia (k := j) rfl rfl Try.underlying24 Try.sizeOf33 rfl (by omega))) ?_
      refine vc_e (e_stso (vs := [_, _, _, _]) st 1 rfl rfl rfl rfl rfl Try.sizeOf33 rfl (by simp; omega) ?_)
      intro w st; dsimp only [setNth] at st
      refine vc_end ?_
      refine vq_block ?_
      refine vq_then ?_
      refine vc_keep [(0, _), (3, _), (4, _), (6, _), (7, _)] ⟨rfl, rfl, rfl, rfl, rfl, trivial⟩ ?_
      refine vc_region ?_
      refine vc_y rfl rfl (y_mv rfl) ?_
      refine vc_y rfl rfl (y_add rfl rfl rfl (by omega) (by omega)) ?_
      refine vc_y rfl rfl (y_as rfl) ?_
      refine vc_end ?_
      refine vq_again (j + 1, xs.take (j * 4) ++ [.int .u8 4, str [33], .int .i64 0, .int .i64 (-1)] ++ xs.drop (j * 4 + 4)) ⟨rfl, rfl, rfl, rfl, rfl, trivial⟩ st ⟨by dsimp only; omega, by simp; omega⟩ (by dsimp only; omega)
    · intro hc25
      try simp only [decide_eq_true_eq, decide_eq_false_iff_not, Bool.not_eq_true', Bool.not_eq_false', Bool.not_eq_true, Bool.not_eq_false, Int.not_lt, Int.not_le, Nat.not_lt, Nat.not_le, Bool.not_true, Bool.not_false, Bool.true_eq_false, Bool.false_eq_true] at hc25
      refine vc_exit ?_
      refine vq_then_exit ?_
      refine vq_then_exit ?_
      refine vq_block_exit ?_
      refine vq_then ?_
      refine vc_keep [(0, _), (3, _), (4, _), (6, _)] ⟨rfl, rfl, rfl, rfl, trivial⟩ ?_
      refine vc_seq ?_
      refine vc_region ?_
      refine vc_y rfl rfl (y_mv rfl) ?_
      refine vc_y rfl rfl (y_bld (.agg #[_, _, _, _]) [] rfl (fun w => by simp [Instr.build, go_sem] <;> repeat' constructor)) ?_
      refine vc_y rfl rfl (y_bld (.agg #[_, _, _, _]) [] rfl (fun w => by simp [Instr.build, go_sem] <;> repeat' constructor)) ?_
      refine vc_e (e_bsn (l := tok4 0 [] 0 0 ++ tok4 0 [] 0 0) st [(0, .agg (tok4 0 [] 0 0).toArray), (1, .agg (tok4 0 [] 0 0).toArray)] rfl rfl rfl (fun w => by
        rw [run_buildSlice (P := Try.prog) w 24 33 2 _ (tok4 0 [] 0 0 ++ tok4 0 [] 0 0).toArray Try.t33 (.agg (tok4 0 [] 0 0).toArray) Try.underlying24 Try.info33 rfl (by decide) (by decide) (by kernel_rfl)]) ?_)
      intro b35 w hb35 st
      refine vc_e (e_app (bytes := 40) st 2 0 rfl rfl rfl rfl rfl rfl Try.underlying24 Try.info33 rfl rfl rfl rfl rfl (by simp) rfl rfl (by unfold maxLen; omega) (by omega) ?_)
      intro oa36 cap36 w st; dsimp only [setNth] at st
      refine vc_y rfl rfl (y_as rfl) ?_
      refine vc_end ?_
      refine vq_then ?_
      refine vc_keep [(0, _), (3, _), (4, _), (6, _)] ⟨rfl, rfl, rfl, rfl, trivial⟩ ?_
      refine vc_seq ?_
      refine vc_region ?_
      refine vc_y rfl rfl (y_mv rfl) ?_
      refine vc_e (e_call [_] rfl rfl Try.call21 rfl (scan_eq l T hT e a r he _) ?_)
      rintro _ w ⟨cw, ob, cb, rfl, how⟩
      replace st := st.pushOwn cw how
      refine vc_y rfl rfl (y_mv rfl) ?_
      refine vc_y rfl rfl (y_ext rfl rfl) ?_
      refine vc_y rfl rfl (y_ext rfl rfl) ?_
      refine vc_y rfl rfl (y_ext rfl rfl) ?_
      refine vc_e (e_al (l := [_, _]) st rfl rfl Try.zeroValue27 rfl ?_)
      intro b10 w hb10 st
      refine vc_y rfl rfl (y_as rfl) ?_
      refine vc_y rfl rfl (y_as rfl) ?_
      first
      | refine vc_e (e_sts (vs := [_, _]) st 0 rfl rfl rfl rfl rfl Try.sizeOf27 rfl rfl (by first | (right; assumption) | (left; simp)) ?_)
      | refine vc_e (e_sts (vs := [_, _]) st 1 rfl rfl rfl rfl rfl Try.sizeOf27 rfl rfl (by first | (right; assumption) | (left; simp)) ?_)
      | refine vc_e (e_sts (vs := [_, _]) st 2 rfl rfl rfl rfl rfl Try.sizeOf27 rfl rfl (by first | (right; assumption) | (left; simp)) ?_)
      | refine vc_e (e_sts (vs := [_, _]) st 3 rfl rfl rfl rfl rfl Try.sizeOf27 rfl rfl (by first | (right; assumption) | (left; simp)) ?_)
      | refine vc_e (e_sts (vs := [_, _]) st 4 rfl rfl rfl rfl rfl Try.sizeOf27 rfl rfl (by first | (right; assumption) | (left; simp)) ?_)
      intro w st; dsimp only [setNth, wr] at st
      refine vc_end ?_
      refine vq_then ?_
      refine vc_keep [(3, _), (4, _), (6, _), (8, _), (9, _)] ⟨rfl, rfl, rfl, rfl, rfl, trivial⟩ ?_
      refine vc_seq ?_
      refine vc_region ?_
      have ra := isToks_own (A := T.map tvOf) (oa := ok) (cap := ck) (by rw [List.length_map, ← toksL_tv]; exact st.res (i := 3) rfl)
      have rb := isToks_own (A := T.map tvOf) (oa := ob) (cap := cb) (by rw [List.length_map, ← toksL_tv]; exact st.res (i := 1) rfl)
      have hsame := rsame_any (T.map tvOf) (T.map tvOf) ok ob ck cb true w ra rb (by rw [List.length_map]; unfold maxLen; omega)
      rw [List.length_map] at hsame
      refine vc_y rfl rfl (y_mv rfl) ?_
      refine vc_y rfl rfl (y_mv rfl) ?_
      refine vc_y rfl rfl (y_eqi rfl rfl) ?_
      refine vc_e (e_mvb rfl rfl rfl ?_ ?_)
      · intro hg46
        try simp only [decide_eq_true_eq, decide_eq_false_iff_not, Bool.not_eq_true', Bool.not_eq_false', Bool.not_eq_true, Bool.not_eq_false, Int.not_lt, Int.not_le, Nat.not_lt, Nat.not_le, Bool.not_true, Bool.not_false, Bool.true_eq_false, Bool.false_eq_true] at hg46
        refine vc_y rfl rfl (y_mv rfl) ?_
        refine vc_y rfl rfl (y_mv rfl) ?_
        refine vc_e (e_call [_, _, _] rfl rfl Try.call23 rfl hsame ?_)
        rintro _ w ⟨⟨r, rfl, hSame⟩, cw⟩
        obtain rfl : r = true := hSame.2 (SameP.refl _ _)
        replace st := st.call0 cw
        refine vc_y rfl rfl (y_pickt rfl rfl) ?_
        refine vc_e (e_mvb rfl rfl rfl ?_ ?_)
        · intro hg51
          try simp only [decide_eq_true_eq, decide_eq_false_iff_not, Bool.not_eq_true', Bool.not_eq_false', Bool.not_eq_true, Bool.not_eq_false, Int.not_lt, Int.not_le, Nat.not_lt, Nat.not_le, Bool.not_true, Bool.not_false, Bool.true_eq_false, Bool.false_eq_true] at hg51
          refine vc_y rfl rfl (y_mv rfl) ?_
          refine vc_y rfl rfl (y_lensl rfl Try.underlying24) ?_
          refine vc_y rfl rfl (y_geq rfl rfl) ?_
          refine vc_y rfl rfl (y_pickt rfl rfl) ?_
          refine vc_y rfl rfl (y_as rfl) ?_
          refine vc_end ?_
          refine vq_then ?_
          refine vc_keep [(2, _)] ⟨rfl, trivial⟩ ?_
          refine vc_ret ?_
          refine vq_ret1 st (.inl rfl) Try.results7 (.tmp rfl) ?_
          refine ⟨_, rfl, ?_⟩
          refine ⟨?_, st.chg⟩
          simp
          omega
        · intro hg51
          (exfalso; simp [hSame] at hg51)
      · intro hg46
        (exfalso; simp at hg46)

theorem own7 : ownKnob Try.prog.godebug = none := by kernel_rfl
set_option maxRecDepth 100000 in
theorem liftedLexerOwn (os : Os) (started : os.Started) (H : Type) (enc : TypeId × Value → H) :
    ReturnsInHanded {} Try.checked os 7 .any (Rows.lexerOwnSpec.pre6 enc Try.prog Try.f7 Rows.lexerOwnRow.domain false) (Rows.lexerOwnSpec.post enc Try.prog Try.f7 false true false false) := by
  refine returnsInHanded_of_change (C := Try.checked) own7 started (by kernel_rfl) Try.func7
    (ChangeSpec.witness6 (enc := enc) (C := Try.checked) false ⟨#[], #[.string ⟨#[]⟩], []⟩ 8 (by kernel_rfl) (by kernel_rfl) (by kernel_rfl) (by kernel_rfl)) ?_
  intro W base args ds gs before hval0 hW hcnd _
  have hval : ∀ (j : Nat) t v, Try.f7.params[j]? = some t → args[j]? = some v → Value.okWide Try.prog W .any base t v := hval0
  have hW' := hW
  obtain ⟨p, q, hA0, hV, rfl, hfz, hnd⟩ := hW
  have hA : DataW.TrodAll enc Try.prog W 0 (fun _ => true) true Try.f7.params.toList args.toList ds p := hA0
  rw [Try.params7] at hA hval
  obtain ⟨v0, vs0, d0, ds0, p0, q0, hargs, rfl, rfl, h0, r0⟩ := trodAll_cons hA
  obtain ⟨rfl, rfl, rfl⟩ := trodAll_nil r0
  obtain rfl : args = #[v0] := by cases args; simp_all
  obtain ⟨rfl, rfl⟩ := trodVars_none hV
  obtain ⟨a0, rfl, rfl, rfl, w0⟩ := open_string Try.underlying9 (hval 0 9 v0 rfl rfl) h0
  clear hA0 hval0
  have hwalk := lawLexerOwn a0.data.toList w0 W
  refine Calls.mono hwalk fun e W' ⟨u, he, hu, hc⟩ => ?_
  subst he
  subst hu
  have bel := hc.below
  exact ⟨_, rfl, _, _, _, [], _, [], hW', trodAll_mk1 (shut_bool Try.underlying4 _), (trodAll_cons_mk (shut_string Try.underlying9 w0) trodAll_mk0), rfl, bel.frame _, fun h => by cases h⟩
theorem overLexerOwn : Rows.lexerOwnRow.holds Try.pinned (OpenSpec.ofChange Rows.lexerOwnSpec) :=
  OpenClaim.holds_of_wide 7 Try.f7 rfl rfl rfl rfl rfl rfl rfl ⟨rfl, rfl, rfl, rfl, rfl⟩ rfl rfl rfl rfl rfl (by kernel_rfl) Try.func7 (by kernel_rfl)
    (of_decide_eq_true (by kernel_rfl)) (by unfold Func.isWrapper; first | (rw [if_pos (by decide +kernel)]; kernel_rfl) | (rw [if_neg (by decide +kernel)]; exact ⟨rfl, rfl⟩))
    (fun os started H enc _ => liftedLexerOwn os started H enc)
theorem provedLexerOwn : Rows.LexerOwnSaid := overLexerOwn

end Go.Proofs.Ytakepmhgmgpkkaa
