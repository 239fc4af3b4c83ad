/- LexerPrints and LexerBack, the bounded forms: Print agrees with the document's, the list stays; what is printed is cut again as it was. Condition: the lengths and elements of the arguments are 2^20 at most together. -/
import Derived.Test.YtakepmhgmgpkkaaV
import Derived.Test.YtakepmhgmgpkkaaO
import Derived.WalkKit
import Derived.ProofKit
import Derived.OpenShut
import Derived.ShutString
import Derived.ChangeOld
import Derived.Below
import Derived.JoinedCond
namespace Go.Proofs.Ytakepmhgmgpkkaa
open Go.ChangeShapes Go.WideShapes Go.ChangeAt Go.RowKit
open Go.ChangeMaps (open_string shut_string)
open Sx LexS
set_option linter.unusedVariables false
set_option linter.unusedSimpArgs false
theorem scanRes_of' {s : List UInt8} {T : List Tok} (hs : s.length ≤ 65536) (h : scanA s 0 = (T, none)) : scanRes s = (T, 0, 0, 0) := by
  unfold scanRes; rw [if_neg (by omega), front_eq, h]
theorem scanRes_no {s : List UInt8} {T : List Tok} {e a r : Nat} (h : scanRes s = (T, e, a, r)) (he : e ≠ 0) : T = [] := by
  unfold scanRes at h
  split at h
  · cases h; rfl
  · split at h
    · cases h; exact absurd rfl he
    · cases h; rfl
theorem tvs_eq (A : List TV) : toksL [] ++ (A.flatMap tvL) = A.flatMap tvL := rfl
theorem isToks_len {w : World} {base cap n : Nat} {oa : Option Addr} {A : List TV} (hn : n = A.length) (h : w.ownsRow base 33 4 (.slice oa n cap) n (A.flatMap tvL)) : IsToks w oa A := by
  subst hn; exact isToks_own h
theorem rd_toks {w : World} {oa : Option Addr} {cap : Nat} {A : List TV} (h : IsToks w oa A) (hc : oa = none → cap = 0) : RdRow w oa cap (A.flatMap tvL) := by
  rcases h with rfl | ⟨g, off, rfl, hh⟩
  · cases oa with
    | none => exact .inl ⟨rfl, rfl, hc rfl⟩
    | some a => exact .inr ⟨a, rfl, fun k u hk => by simp at hk⟩
  · refine .inr ⟨_, rfl, fun k u hk => ?_⟩
    have hl : k < (A.flatMap tvL).length := (List.getElem?_eq_some_iff.1 hk).1
    rw [tv_len] at hl
    have hj : k / 4 < A.length := by omega
    have e := tvs_get A (k / 4) (k % 4) hj (Nat.mod_lt _ (by omega))
    rw [show k / 4 * 4 + k % 4 = k by omega, hk] at e
    have := toks_cell hh hj (k % 4) u e.symm
    rw [addr_add]
    rwa [show off + k / 4 * 4 + k % 4 = off + k by omega] at this

set_option maxHeartbeats 1000000 in
theorem lawLexerPrints (A : List TV) (oa : Option Addr) (cap : Nat) (w : World) (hA : IsToks w oa A) (hcap : oa = none → cap = 0) (hb : bulkT A ≤ 1048576) : Ret Try.prog 12 [.slice oa A.length cap] w fun v w' => v = .bool true ∧ Chg [] w w' := by
  refine ret_of [_] Try.func12 rfl Try.ntmps12 rfl ?_
  have st := St.init w []
  have hbl := bulk_len A
  obtain ⟨X, hX⟩ : ∃ X, prtRes A = X := ⟨_, rfl⟩
  have hrd := rd_toks hA hcap
  refine vc_seq ?_
  refine vc_region ?_
  refine vc_y rfl rfl (y_as rfl) ?_
  refine vc_end ?_
  refine vq_then ?_
  refine vc_keep [(0, _)] ⟨rfl, trivial⟩ ?_
  refine vc_seq ?_
  refine vc_region ?_
  refine vc_e (e_bs0 st rfl rfl Try.underlying24 Try.sizeOf33 ?_)
  intro b8 w hb8 st
  refine vc_y rfl rfl (y_mv rfl) ?_
  refine vc_e (e_appc (l := A.flatMap tvL) (bytes := 40) st 0 rfl rfl rfl rfl rfl (RdRow.kept hrd st.chg) Try.underlying24 Try.info33 rfl rfl rfl rfl rfl (tv_len A) (tv_one A) (by unfold maxLen; omega) (by omega) (Nat.zero_add _) (List.nil_append _) ?_)
  intro o3 c3 w st; dsimp only [setNth] at st
  have h3 := isToks_own (A := A) (st.res (i := 0) rfl)
  refine vc_y rfl rfl (y_as rfl) ?_
  refine vc_end ?_
  refine vq_then ?_
  refine vc_keep [(0, _), (3, _)] ⟨rfl, rfl, trivial⟩ ?_
  refine vc_seq ?_
  refine vc_region ?_
  refine vc_y rfl rfl (y_mv rfl) ?_
  refine vc_e (e_call [_] rfl rfl Try.call28 rfl (by have h := print_any A o3 c3 _ h3 (by omega); rw [hX] at h; exact h) ?_)
  rintro _ w ⟨rfl, cw⟩
  replace st := st.call0 cw
  refine vc_y rfl rfl (y_mv rfl) ?_
  refine vc_y rfl rfl (y_ext rfl rfl) ?_
  refine vc_y rfl rfl (y_ext rfl rfl) ?_
  refine vc_y rfl rfl (y_as rfl) ?_
  refine vc_y rfl rfl (y_as rfl) ?_
  refine vc_end ?_
  refine vq_then ?_
  refine vc_keep [(0, _), (3, _), (4, _), (5, _)] ⟨rfl, rfl, rfl, rfl, trivial⟩ ?_
  refine vc_seq ?_
  refine vc_region ?_
  refine vc_y rfl rfl (y_mv rfl) ?_
  refine vc_e (e_call [_] rfl rfl Try.call29 rfl (by have h := rprint_any A oa cap _ (hA.kept (M := []) st.chg) (by omega); rw [hX] at h; exact h) ?_)
  rintro _ w ⟨rfl, cw⟩
  replace st := st.call0 cw
  replace h3 := isToks_own (A := A) (st.res (i := 0) rfl)
  refine vc_y rfl rfl (y_mv rfl) ?_
  refine vc_y rfl rfl (y_ext rfl rfl) ?_
  refine vc_y rfl rfl (y_ext rfl rfl) ?_
  refine vc_y rfl rfl (y_as rfl) ?_
  refine vc_y rfl rfl (y_as rfl) ?_
  refine vc_end ?_
  refine vq_then ?_
  refine vc_keep [(0, _), (3, _), (4, _), (5, _), (6, _), (7, _)] ⟨rfl, rfl, rfl, rfl, rfl, rfl, trivial⟩ ?_
  refine vc_seq ?_
  refine vc_region ?_
  refine vc_y rfl rfl (y_mv rfl) ?_
  refine vc_y rfl rfl (y_mv rfl) ?_
  refine vc_y rfl rfl (y_eqs rfl rfl) ?_
  refine vc_e (e_mvb rfl rfl rfl ?_ ?_)
  · intro hg24
    try simp only [decide_eq_true_eq, decide_eq_false_iff_not, Bool.not_eq_true', Bool.not_eq_false', Bool.not_eq_true, Bool.not_eq_false, Int.not_lt, Int.not_le, Nat.not_lt, Nat.not_le, Bool.not_true, Bool.not_false, Bool.true_eq_false, Bool.false_eq_true] at hg24
    refine vc_y rfl rfl (y_mv rfl) ?_
    refine vc_y rfl rfl (y_mv rfl) ?_
    refine vc_y rfl rfl (y_eqi rfl rfl) ?_
    refine vc_y rfl rfl (y_pickt rfl rfl) ?_
    refine vc_e (e_mvb rfl rfl rfl ?_ ?_)
    · intro hg29
      try simp only [decide_eq_true_eq, decide_eq_false_iff_not, Bool.not_eq_true', Bool.not_eq_false', Bool.not_eq_true, Bool.not_eq_false, Int.not_lt, Int.not_le, Nat.not_lt, Nat.not_le, Bool.not_true, Bool.not_false, Bool.true_eq_false, Bool.false_eq_true] at hg29
      refine vc_y rfl rfl (y_mv rfl) ?_
      refine vc_y rfl rfl (y_mv rfl) ?_
      refine vc_e (e_call [_, _, _] rfl rfl Try.call23 rfl (rsame_any A A o3 oa c3 cap true _ h3 (hA.kept (M := []) st.chg) (by unfold maxLen; omega)) ?_)
      rintro _ w ⟨⟨r', rfl, hSame⟩, cw⟩
      obtain rfl : r' = true := hSame.2 (SameP.refl _ _)
      replace st := st.call0 cw
      refine vc_y rfl rfl (y_pickt rfl rfl) ?_
      refine vc_e (e_mvb rfl rfl rfl ?_ ?_)
      · intro hg34
        try simp only [decide_eq_true_eq, decide_eq_false_iff_not, Bool.not_eq_true', Bool.not_eq_false', Bool.not_eq_true, Bool.not_eq_false, Int.not_lt, Int.not_le, Nat.not_lt, Nat.not_le, Bool.not_true, Bool.not_false, Bool.true_eq_false, Bool.false_eq_true] at hg34
        refine vc_e (e_call [] rfl rfl Try.call20 rfl (begins_any _) ?_)
        rintro _ w ⟨rfl, cb⟩
        replace st := st.call0 cb
        refine vc_y rfl rfl (y_pickt rfl rfl) ?_
        refine vc_y rfl rfl (y_as rfl) ?_
        refine vc_end ?_
        refine vq_then ?_
        refine vc_keep [(2, _)] ⟨rfl, trivial⟩ ?_
        refine vc_ret ?_
        refine vq_ret1 st (.inl rfl) Try.results12 (.tmp rfl) ?_
        refine ⟨_, rfl, ?_⟩
        exact ⟨rfl, st.chg⟩
      · intro hg34
        (exfalso; simp at hg34)
    · intro hg29
      (exfalso; simp at hg29)
  · intro hg24
    (exfalso; simp at hg24)

theorem own12 : ownKnob Try.prog.godebug = none := by kernel_rfl
theorem laidOut12 : laidOutB Try.prog = true := by kernel_rfl
set_option maxRecDepth 100000 in
theorem liftedLexerPrints (os : Os) (started : os.Started) (H : Type) (enc : TypeId × Value → H) (F : Stop.Interp) :
    ReturnsInHanded {} Try.checked os 12 .any ((Rows.OpenSpec.upto Rows.lexerPrintsSpec).pre6 enc Try.prog Try.f12 Rows.lexerPrintsUptoRow.domain false) (((Rows.OpenSpec.upto Rows.lexerPrintsSpec).at F).post enc Try.prog Try.f12 false true false false) := by
  refine returnsInHanded_of_cond (C := Try.checked) (s := Rows.OpenSpec.upto Rows.lexerPrintsSpec) (k := Rows.uptoSmall) rfl own12 started (by kernel_rfl) Try.func12
    (OpenSpec.witness (enc := enc) (C := Try.checked) (s := Rows.OpenSpec.upto Rows.lexerPrintsSpec) (k := Rows.uptoSmall) rfl false ⟨#[], #[.slice none 0 0], []⟩ 8 (by kernel_rfl) (by kernel_rfl) (by kernel_rfl)
      (x := ([.nil], [], [])) (by kernel_rfl) rfl (by kernel_rfl)) ?_
  intro W base args ds gs before hval0 hW _ hk _
  have hval : ∀ (j : Nat) t v, Try.f12.params[j]? = some t → args[j]? = some v → Value.okWide Try.prog W .any base t v := hval0
  have hW' := hW
  have hlt := hW.lt
  obtain ⟨p, q, hA0, hV, rfl, hfz, hnd⟩ := hW
  have hA : DataW.TrodAll enc Try.prog W 0 (fun _ => true) true Try.f12.params.toList args.toList ds p := hA0
  have hshut : ∀ W', Below W.heap.size W W' → DataW.TrodAll enc Try.prog W' 0 (fun b => decide (b < W.heap.size)) true Try.f12.params.toList args.toList ds p := fun W' hb => Sx.trodAll_shut laidOut12 hb (by kernel_rfl) hA (fun x hx => hlt x (List.mem_append.2 (.inl hx)))
  rw [Try.params12] at hA hval
  obtain ⟨v0, vs0, d0, ds0, p0, q0, hargs, rfl, rfl, h0, r0⟩ := trodAll_cons hA
  obtain ⟨rfl, rfl, rfl⟩ := trodAll_nil r0
  obtain rfl : args = #[v0] := by cases args; simp_all
  obtain ⟨rfl, rfl⟩ := trodVars_none hV
  obtain ⟨a0, c0, A, rfl, hT, hcp, hbk, hnil⟩ := open_toks (hval 0 24 v0 rfl rfl) h0
  clear hA0 hval0
  have hsmall : bulkT A ≤ 1048576 := by
    have h := of_decide_eq_true hk
    simp only [List.cons_append, List.nil_append, Rows.uptoBulkAll] at h
    try simp only [Rows.uptoBulk] at h
    omega
  have hwalk := lawLexerPrints A a0 c0 W hT hnil hsmall
  refine Calls.mono hwalk fun e W' ⟨u, he, hu, hc⟩ => ?_
  subst he
  subst hu
  have bel := hc.below
  exact ⟨_, rfl, _, _, _, [], _, [], hW', trodAll_mk1 (shut_bool Try.underlying4 _), hshut W' bel, rfl, bel.frame _, fun h => by cases h⟩
theorem overLexerPrints : Rows.lexerPrintsUptoRow.holds Try.pinned (Rows.OpenSpec.upto Rows.lexerPrintsSpec) :=
  OpenClaim.holds_of_cond 12 Try.f12 rfl rfl rfl rfl rfl rfl rfl ⟨rfl, rfl, rfl, rfl, rfl⟩ rfl rfl rfl rfl rfl (by kernel_rfl) Try.func12 (by kernel_rfl)
    (of_decide_eq_true (by kernel_rfl)) (by unfold Func.isWrapper; first | (rw [if_pos (by decide +kernel)]; kernel_rfl) | (rw [if_neg (by decide +kernel)]; exact ⟨rfl, rfl⟩))
    (fun os started H enc _ F => liftedLexerPrints os started H enc F)
theorem provedLexerPrints : Rows.LexerPrintsUptoSaid := overLexerPrints

def tripV (x : TV) : List UInt8 × Int × Int := (x.t, x.k, x.wd)
theorem sameP_trip {A B : List TV} (h : A.map tripV = B.map tripV) : SameP false A B := by
  have hl : A.length = B.length := by simpa using congrArg List.length h
  refine ⟨hl, fun j hj => ?_⟩
  have hj' : j < B.length := by omega
  have e := congrArg (·[j]?) h
  simp only [List.getElem?_map, List.getElem?_eq_getElem hj, List.getElem?_eq_getElem hj', Option.map_some, Option.some.injEq, tripV, Prod.mk.injEq] at e
  simp only [List.getD, List.getElem?_eq_getElem hj, List.getElem?_eq_getElem hj', Option.getD_some]
  exact ⟨e.2.1, e.1, e.2.2, fun h => by cases h⟩
theorem trip_tv (T : List Tok) : (T.map tvOf).map tripV = T.map trip := by
  rw [List.map_map]; rfl
theorem prt_ok {A : List TV} {X : List UInt8 × Nat} (hX : prtRes A = X) (h : X.2 = 0) : X.1.length ≤ 65536 ∧ ∃ T, scanRes X.1 = (T, 0, 0, 0) ∧ T.map trip = A.map tripV := by
  subst hX
  unfold prtRes at h ⊢
  split at h
  · cases h
  · rename_i hr
    split at h
    · cases h
    · rename_i hl
      rw [if_neg hr, if_neg hl]
      have hlen : (joinB (txts A)).length ≤ 65536 := by rw [joinA_len]; omega
      refine ⟨hlen, ?_⟩
      have hall : A.all rgtT = true := by simpa using hr
      obtain ⟨T, hT, hm⟩ := join_scan (A.map tripV) 0 (fun x hx => by
        obtain ⟨y, hy, rfl⟩ := List.mem_map.1 hx
        exact List.all_eq_true.1 hall y hy)
      have e : (A.map tripV).map (·.1) = txts A := by rw [List.map_map]; rfl
      rw [e] at hT
      exact ⟨T, scanRes_of' hlen hT, hm⟩
theorem prt_scan {s : List UInt8} {T : List Tok} {X : List UInt8 × Nat} (h : scanA s 0 = (T, none)) (hX : prtRes (T.map tvOf) = X) : X.2 = 0 ∨ (X.2 = 4 ∧ X.1 = []) := by
  subst hX
  have hall : (T.map tvOf).all rgtT = true := by
    rw [List.all_eq_true]
    intro y hy
    obtain ⟨x, hx, rfl⟩ := List.mem_map.1 hy
    exact scan_right T s 0 none h x hx
  unfold prtRes
  rw [if_neg (by rw [hall]; simp)]
  split
  · exact .inr ⟨rfl, rfl⟩
  · exact .inl rfl
theorem scan_sum : ∀ (T : List Tok) (r : List UInt8) (i : Nat) (f : Option (Nat × Nat)), scanA r i = (T, f) → (T.map (fun x => x.text.length)).sum ≤ r.length ∧ T.length ≤ r.length
  | [], r, i, f, h => by simp
  | t :: T, r, i, f, h => by
    obtain ⟨h1, h2, h3⟩ := scan_inv h
    have ih := scan_sum T _ _ _ h3
    have hl := tok_len h2
    have hle := congrArg List.length hl.2.1
    simp only [List.length_take, List.length_drop] at hle ih
    simp only [List.map_cons, List.sum_cons, List.length_cons]
    omega
theorem bulk_scan {s : List UInt8} {T : List Tok} (hs : s.length ≤ 65536) (h : scanA s 0 = (T, none)) : bulkT (T.map tvOf) ≤ 1000000 := by
  have := scan_sum T s 0 none h
  have e := sumT_bulk (T.map tvOf)
  have e2 : sumT (T.map tvOf) = (T.map (fun x => x.text.length)).sum := by simp [sumT, tvOf, Function.comp_def]
  rw [List.length_map] at e
  omega

set_option maxHeartbeats 2000000 in
theorem lawLexerBack (A : List TV) (oa : Option Addr) (cap : Nat) (s : List UInt8) (hl : s.length ≤ maxLen) (w : World) (hA : IsToks w oa A) (hb : bulkT A ≤ 1048576) : Ret Try.prog 13 [.slice oa A.length cap, str s] w fun v w' => v = .bool true ∧ Chg [] w w' := by
  refine ret_of [_, _] Try.func13 rfl Try.ntmps13 rfl ?_
  have st := St.init w []
  have hbl := bulk_len A
  obtain ⟨w0, rfl⟩ : ∃ w0, w0 = w := ⟨_, rfl⟩
  obtain ⟨X, hX⟩ : ∃ X, prtRes A = X := ⟨_, rfl⟩
  obtain ⟨T2, e2, a2, r2, hres⟩ : ∃ T e a r, scanRes s = (T, e, a, r) := ⟨_, _, _, _, rfl⟩
  obtain ⟨X2, hX2⟩ : ∃ X, prtRes (T2.map tvOf) = X := ⟨_, rfl⟩
  refine vc_seq ?_
  refine vc_region ?_
  refine vc_y rfl rfl (y_as rfl) ?_
  refine vc_end ?_
  refine vq_then ?_
  refine vc_keep [(0, _), (1, _)] ⟨rfl, rfl, trivial⟩ ?_
  refine vc_seq ?_
  refine vc_seq ?_
  refine vc_region ?_
  refine vc_e (e_call [] rfl rfl Try.call20 rfl (begins_any _) ?_)
  rintro _ w ⟨rfl, cb⟩
  replace st := st.call0 cb
  refine vc_y rfl rfl (y_not rfl) ?_
  refine vc_end ?_
  refine vq_then ?_
  refine vc_keep [(0, _), (1, _), (15, _)] ⟨rfl, rfl, rfl, trivial⟩ ?_
  refine vc_ifs rfl ?_ ?_
  · intro hc15
    (exfalso; simp at hc15)
  · intro hc15
    try simp only [decide_eq_true_eq, decide_eq_false_iff_not, Bool.not_eq_true', Bool.not_eq_false', Bool.not_eq_true, Bool.not_eq_false, Int.not_lt, Int.not_le, Nat.not_lt, Nat.not_le, Bool.not_true, Bool.not_false, Bool.true_eq_false, Bool.false_eq_true] at hc15
    refine vc_code_skip ?_
    refine vq_then ?_
    refine vc_keep [(0, _), (1, _)] ⟨rfl, rfl, trivial⟩ ?_
    refine vc_seq ?_
    refine vc_region ?_
    refine vc_y rfl rfl (y_mv rfl) ?_
    refine vc_e (e_call [_] rfl rfl Try.call28 rfl (by have h := print_any A oa cap _ (hA.kept (M := []) st.chg) (by omega); rw [hX] at h; exact h) ?_)
    rintro _ w ⟨rfl, cw⟩
    replace st := st.call0 cw
    refine vc_y rfl rfl (y_mv rfl) ?_
    refine vc_y rfl rfl (y_ext rfl rfl) ?_
    refine vc_y rfl rfl (y_ext rfl rfl) ?_
    refine vc_y rfl rfl (y_as rfl) ?_
    refine vc_y rfl rfl (y_as rfl) ?_
    refine vc_end ?_
    refine vq_then ?_
    refine vc_keep [(0, _), (1, _), (5, _), (6, _)] ⟨rfl, rfl, rfl, rfl, trivial⟩ ?_
    refine vc_cut (w0 := w0) (M := []) (fun (_ : Unit) => [(1, str s)]) (fun _ => []) (fun _ _ => True) ?_ ?_
    ·
      refine vc_seq ?_
      refine vc_region ?_
      refine vc_y rfl rfl (y_mv rfl) ?_
      refine vc_y rfl rfl (y_eqi rfl rfl) ?_
      refine vc_end ?_
      refine vq_then ?_
      refine vc_keep [(0, _), (1, _), (5, _), (22, _)] ⟨rfl, rfl, rfl, rfl, trivial⟩ ?_
      refine vc_ifs rfl ?_ ?_
      · intro hc22
        try simp only [decide_eq_true_eq, decide_eq_false_iff_not, Bool.not_eq_true', Bool.not_eq_false', Bool.not_eq_true, Bool.not_eq_false, Int.not_lt, Int.not_le, Nat.not_lt, Nat.not_le, Bool.not_true, Bool.not_false, Bool.true_eq_false, Bool.false_eq_true] at hc22
        obtain ⟨hXl, T, hT, hTm⟩ := prt_ok hX (by omega)
        refine vc_seq ?_
        refine vc_region ?_
        refine vc_y rfl rfl (y_mv rfl) ?_
        refine vc_e (e_call [_] rfl rfl Try.call21 rfl (scan_eq X.1 T (by rw [hT]) 0 0 0 (by rw [hT]) _) ?_)
        rintro _ w ⟨cw, o1, c1, rfl, how⟩
        replace st := st.pushOwn cw how
        refine vc_y rfl rfl (y_mv rfl) ?_
        refine vc_y rfl rfl (y_ext rfl rfl) ?_
        refine vc_y rfl rfl (y_ext rfl rfl) ?_
        refine vc_y rfl rfl (y_ext rfl rfl) ?_
        refine vc_e (e_al (l := [_, _]) st rfl rfl Try.zeroValue27 rfl ?_)
        intro b9 w hb9 st
        refine vc_y rfl rfl (y_as rfl) ?_
        refine vc_y rfl rfl (y_as rfl) ?_
        first
        | refine vc_e (e_sts (vs := [_, _]) st 0 rfl rfl rfl rfl rfl Try.sizeOf27 rfl rfl (by first | (right; assumption) | (left; simp)) ?_)
        | refine vc_e (e_sts (vs := [_, _]) st 1 rfl rfl rfl rfl rfl Try.sizeOf27 rfl rfl (by first | (right; assumption) | (left; simp)) ?_)
        | refine vc_e (e_sts (vs := [_, _]) st 2 rfl rfl rfl rfl rfl Try.sizeOf27 rfl rfl (by first | (right; assumption) | (left; simp)) ?_)
        | refine vc_e (e_sts (vs := [_, _]) st 3 rfl rfl rfl rfl rfl Try.sizeOf27 rfl rfl (by first | (right; assumption) | (left; simp)) ?_)
        | refine vc_e (e_sts (vs := [_, _]) st 4 rfl rfl rfl rfl rfl Try.sizeOf27 rfl rfl (by first | (right; assumption) | (left; simp)) ?_)
        | refine vc_e (e_sts (vs := [_, _]) st 5 rfl rfl rfl rfl rfl Try.sizeOf27 rfl rfl (by first | (right; assumption) | (left; simp)) ?_)
        intro w st; dsimp only [setNth, wr] at st
        refine vc_end ?_
        refine vq_then ?_
        refine vc_keep [(0, _), (1, _), (7, _), (8, _)] ⟨rfl, rfl, rfl, rfl, trivial⟩ ?_
        refine vc_seq ?_
        refine vc_region ?_
        refine vc_y rfl rfl (y_mv rfl) ?_
        refine vc_y rfl rfl (y_nei rfl rfl) ?_
        refine vc_e (e_mvb rfl rfl rfl ?_ ?_)
        · intro hg31
          (exfalso; simp at hg31)
        · intro hg31
          try simp only [decide_eq_true_eq, decide_eq_false_iff_not, Bool.not_eq_true', Bool.not_eq_false', Bool.not_eq_true, Bool.not_eq_false, Int.not_lt, Int.not_le, Nat.not_lt, Nat.not_le, Bool.not_true, Bool.not_false, Bool.true_eq_false, Bool.false_eq_true] at hg31
          refine vc_y rfl rfl (y_mv rfl) ?_
          refine vc_y rfl rfl (y_mv rfl) ?_
          have ra := isToks_own (A := T.map tvOf) (oa := o1) (cap := c1) (by rw [List.length_map, ← toksL_tv]; exact st.res (i := 1) rfl)
          refine vc_e (e_call [_, _, _] rfl rfl Try.call23 rfl (by have h := rsame_any (T.map tvOf) A o1 oa c1 cap false _ ra (hA.kept (M := []) st.chg) (by have := congrArg List.length hTm; unfold maxLen; simp at this ⊢; omega); rw [List.length_map] at h; exact h) ?_)
          rintro _ w ⟨⟨r', rfl, hSame⟩, cw⟩
          obtain rfl : r' = true := hSame.2 (sameP_trip (by rw [trip_tv, hTm]))
          replace st := st.call0 cw
          refine vc_y rfl rfl (y_not rfl) ?_
          refine vc_y rfl rfl (y_pickf rfl rfl) ?_
          refine vc_end ?_
          refine vq_then ?_
          refine vc_keep [(1, _), (36, _)] ⟨rfl, rfl, trivial⟩ ?_
          refine vc_ifs rfl ?_ ?_
          · intro hc36
            (exfalso; simp at hc36)
          · intro hc36
            try simp only [decide_eq_true_eq, decide_eq_false_iff_not, Bool.not_eq_true', Bool.not_eq_false', Bool.not_eq_true, Bool.not_eq_false, Int.not_lt, Int.not_le, Nat.not_lt, Nat.not_le, Bool.not_true, Bool.not_false, Bool.true_eq_false, Bool.false_eq_true] at hc36
            refine vc_code_skip ?_
            refine vq_meet () ⟨rfl, trivial⟩ (st.drop (by repeat (first | exact List.Sublist.slnil | apply List.Sublist.cons_cons | apply List.Sublist.cons))) ?_
            · trivial
      · intro hc22
        try simp only [decide_eq_true_eq, decide_eq_false_iff_not, Bool.not_eq_true', Bool.not_eq_false', Bool.not_eq_true, Bool.not_eq_false, Int.not_lt, Int.not_le, Nat.not_lt, Nat.not_le, Bool.not_true, Bool.not_false, Bool.true_eq_false, Bool.false_eq_true] at hc22
        refine vc_code_skip ?_
        refine vq_meet () ⟨rfl, trivial⟩ (st.drop (by repeat (first | exact List.Sublist.slnil | apply List.Sublist.cons_cons | apply List.Sublist.cons))) ?_
        · trivial
    ·
      clear st
      rintro ⟨⟩ w - st
      refine vc_seq ?_
      refine vc_region ?_
      refine vc_y rfl rfl (y_mv rfl) ?_
      refine vc_e (e_call [_] rfl rfl Try.call21 rfl (scan_eq s T2 (by rw [hres]) e2 a2 r2 (by rw [hres]) _) ?_)
      rintro _ w ⟨cw, o2, c2, rfl, how⟩
      replace st := st.pushOwn cw how
      refine vc_y rfl rfl (y_mv rfl) ?_
      refine vc_y rfl rfl (y_ext rfl rfl) ?_
      refine vc_y rfl rfl (y_ext rfl rfl) ?_
      refine vc_y rfl rfl (y_ext rfl rfl) ?_
      refine vc_e (e_al (l := [_, _]) st rfl rfl Try.zeroValue27 rfl ?_)
      intro b11 w hb11 st
      refine vc_y rfl rfl (y_as rfl) ?_
      refine vc_y rfl rfl (y_as rfl) ?_
      first
      | refine vc_e (e_sts (vs := [_, _]) st 0 rfl rfl rfl rfl rfl Try.sizeOf27 rfl rfl (by first | (right; assumption) | (left; simp)) ?_)
      | refine vc_e (e_sts (vs := [_, _]) st 1 rfl rfl rfl rfl rfl Try.sizeOf27 rfl rfl (by first | (right; assumption) | (left; simp)) ?_)
      | refine vc_e (e_sts (vs := [_, _]) st 2 rfl rfl rfl rfl rfl Try.sizeOf27 rfl rfl (by first | (right; assumption) | (left; simp)) ?_)
      | refine vc_e (e_sts (vs := [_, _]) st 3 rfl rfl rfl rfl rfl Try.sizeOf27 rfl rfl (by first | (right; assumption) | (left; simp)) ?_)
      | refine vc_e (e_sts (vs := [_, _]) st 4 rfl rfl rfl rfl rfl Try.sizeOf27 rfl rfl (by first | (right; assumption) | (left; simp)) ?_)
      | refine vc_e (e_sts (vs := [_, _]) st 5 rfl rfl rfl rfl rfl Try.sizeOf27 rfl rfl (by first | (right; assumption) | (left; simp)) ?_)
      intro w st; dsimp only [setNth, wr] at st
      refine vc_end ?_
      refine vq_then ?_
      refine vc_keep [(6, _), (10, _)] ⟨rfl, rfl, trivial⟩ ?_
      refine vc_seq ?_
      refine vc_seq ?_
      refine vc_region ?_
      refine vc_y rfl rfl (y_mv rfl) ?_
      refine vc_y rfl rfl (y_nei rfl rfl) ?_
      refine vc_end ?_
      refine vq_then ?_
      refine vc_keep [(10, _), (44, _)] ⟨rfl, rfl, trivial⟩ ?_
      refine vc_ifs rfl ?_ ?_
      · intro hc44
        try simp only [decide_eq_true_eq, decide_eq_false_iff_not, Bool.not_eq_true', Bool.not_eq_false', Bool.not_eq_true, Bool.not_eq_false, Int.not_lt, Int.not_le, Nat.not_lt, Nat.not_le, Bool.not_true, Bool.not_false, Bool.true_eq_false, Bool.false_eq_true] at hc44
        refine vc_seq ?_
        refine vc_region ?_
        refine vc_y rfl rfl (y_mv rfl) ?_
        refine vc_y rfl rfl (y_lensl rfl Try.underlying24) ?_
        refine vc_y rfl rfl (y_eqi rfl rfl) ?_
        refine vc_y rfl rfl (y_as rfl) ?_
        refine vc_end ?_
        refine vq_then ?_
        refine vc_keep [(4, _)] ⟨rfl, trivial⟩ ?_
        refine vc_ret ?_
        refine vq_then_ret ?_
        refine vq_ret1 st (.inl rfl) Try.results13 (.tmp rfl) ?_
        refine ⟨_, rfl, ?_⟩
        refine ⟨?_, st.chg⟩
        rw [scanRes_no hres (by omega)]
        rfl
      · intro hc44
        try simp only [decide_eq_true_eq, decide_eq_false_iff_not, Bool.not_eq_true', Bool.not_eq_false', Bool.not_eq_true, Bool.not_eq_false, Int.not_lt, Int.not_le, Nat.not_lt, Nat.not_le, Bool.not_true, Bool.not_false, Bool.true_eq_false, Bool.false_eq_true] at hc44
        obtain ⟨hsl, hsc⟩ := scanRes_ok (s := s) (by rw [hres]; show e2 = 0; omega)
        rw [hres] at hsc
        dsimp only at hsc
        have hbk2 := bulk_scan hsl hsc
        refine vc_code_skip ?_
        refine vq_then ?_
        refine vc_keep [(10, _)] ⟨rfl, trivial⟩ ?_
        refine vc_seq ?_
        refine vc_region ?_
        refine vc_y rfl rfl (y_mv rfl) ?_
        have r2 := isToks_own (A := T2.map tvOf) (oa := o2) (cap := c2) (by rw [List.length_map, ← toksL_tv]; exact st.res (i := 1) rfl)
        refine vc_e (e_call [_] rfl rfl Try.call28 rfl (by have h := print_any (T2.map tvOf) o2 c2 _ r2 (by omega); rw [hX2, List.length_map] at h; exact h) ?_)
        rintro _ w ⟨rfl, cw⟩
        replace st := st.call0 cw
        refine vc_y rfl rfl (y_mv rfl) ?_
        refine vc_y rfl rfl (y_ext rfl rfl) ?_
        refine vc_y rfl rfl (y_ext rfl rfl) ?_
        refine vc_y rfl rfl (y_as rfl) ?_
        refine vc_y rfl rfl (y_as rfl) ?_
        refine vc_end ?_
        refine vq_then ?_
        refine vc_keep [(5, _), (6, _), (10, _)] ⟨rfl, rfl, rfl, trivial⟩ ?_
        refine vc_seq ?_
        refine vc_seq ?_
        refine vc_region ?_
        refine vc_y rfl rfl (y_mv rfl) ?_
        refine vc_y rfl rfl (y_nei rfl rfl) ?_
        refine vc_end ?_
        refine vq_then ?_
        refine vc_keep [(5, _), (6, _), (10, _), (54, _)] ⟨rfl, rfl, rfl, rfl, trivial⟩ ?_
        refine vc_ifs rfl ?_ ?_
        · intro hc54
          try simp only [decide_eq_true_eq, decide_eq_false_iff_not, Bool.not_eq_true', Bool.not_eq_false', Bool.not_eq_true, Bool.not_eq_false, Int.not_lt, Int.not_le, Nat.not_lt, Nat.not_le, Bool.not_true, Bool.not_false, Bool.true_eq_false, Bool.false_eq_true] at hc54
          refine vc_seq ?_
          refine vc_region ?_
          refine vc_y rfl rfl (y_mv rfl) ?_
          refine vc_y rfl rfl (y_eqi rfl rfl) ?_
          refine vc_e (e_mvb rfl rfl rfl ?_ ?_)
          · intro hg57
            try simp only [decide_eq_true_eq, decide_eq_false_iff_not, Bool.not_eq_true', Bool.not_eq_false', Bool.not_eq_true, Bool.not_eq_false, Int.not_lt, Int.not_le, Nat.not_lt, Nat.not_le, Bool.not_true, Bool.not_false, Bool.true_eq_false, Bool.false_eq_true] at hg57
            refine vc_y rfl rfl (y_mv rfl) ?_
            refine vc_y rfl rfl (y_eqs rfl rfl) ?_
            refine vc_y rfl rfl (y_pickt rfl rfl) ?_
            refine vc_y rfl rfl (y_as rfl) ?_
            refine vc_end ?_
            refine vq_then ?_
            refine vc_keep [(4, _)] ⟨rfl, trivial⟩ ?_
            refine vc_ret ?_
            refine vq_then_ret ?_
            refine vq_ret1 st (.inl rfl) Try.results13 (.tmp rfl) ?_
            refine ⟨_, rfl, ?_⟩
            refine ⟨?_, st.chg⟩
            rcases prt_scan hsc hX2 with h | ⟨h1, h2⟩
            · omega
            · rw [h2]; rfl
          · intro hg57
            try simp only [decide_eq_true_eq, decide_eq_false_iff_not, Bool.not_eq_true', Bool.not_eq_false', Bool.not_eq_true, Bool.not_eq_false, Int.not_lt, Int.not_le, Nat.not_lt, Nat.not_le, Bool.not_true, Bool.not_false, Bool.true_eq_false, Bool.false_eq_true] at hg57
            refine vc_e (e_skip rfl rfl ?_)
            refine vc_e (e_skip rfl rfl ?_)
            refine vc_y rfl rfl (y_pickf rfl rfl) ?_
            refine vc_y rfl rfl (y_as rfl) ?_
            refine vc_end ?_
            refine vq_then ?_
            refine vc_keep [(4, _)] ⟨rfl, trivial⟩ ?_
            refine vc_ret ?_
            refine vq_then_ret ?_
            refine vq_ret1 st (.inl rfl) Try.results13 (.tmp rfl) ?_
            refine ⟨_, rfl, ?_⟩
            refine ⟨?_, st.chg⟩
            rcases prt_scan hsc hX2 with h | ⟨h1, h2⟩ <;> omega
        · intro hc54
          try simp only [decide_eq_true_eq, decide_eq_false_iff_not, Bool.not_eq_true', Bool.not_eq_false', Bool.not_eq_true, Bool.not_eq_false, Int.not_lt, Int.not_le, Nat.not_lt, Nat.not_le, Bool.not_true, Bool.not_false, Bool.true_eq_false, Bool.false_eq_true] at hc54
          obtain ⟨hXl, T3, hT, hTm⟩ := prt_ok hX2 (by omega)
          refine vc_code_skip ?_
          refine vq_then ?_
          refine vc_keep [(5, _), (10, _)] ⟨rfl, rfl, trivial⟩ ?_
          refine vc_seq ?_
          refine vc_region ?_
          refine vc_y rfl rfl (y_mv rfl) ?_
          refine vc_e (e_call [_] rfl rfl Try.call21 rfl (scan_eq X2.1 T3 (by rw [hT]) 0 0 0 (by rw [hT]) _) ?_)
          rintro _ w ⟨cw, o3, c3, rfl, how⟩
          replace st := st.pushOwn cw how
          refine vc_y rfl rfl (y_mv rfl) ?_
          refine vc_y rfl rfl (y_ext rfl rfl) ?_
          refine vc_y rfl rfl (y_ext rfl rfl) ?_
          refine vc_y rfl rfl (y_ext rfl rfl) ?_
          refine vc_e (e_al (l := [_, _]) st rfl rfl Try.zeroValue27 rfl ?_)
          intro b13 w hb13 st
          refine vc_y rfl rfl (y_as rfl) ?_
          refine vc_y rfl rfl (y_as rfl) ?_
          first
          | refine vc_e (e_sts (vs := [_, _]) st 0 rfl rfl rfl rfl rfl Try.sizeOf27 rfl rfl (by first | (right; assumption) | (left; simp)) ?_)
          | refine vc_e (e_sts (vs := [_, _]) st 1 rfl rfl rfl rfl rfl Try.sizeOf27 rfl rfl (by first | (right; assumption) | (left; simp)) ?_)
          | refine vc_e (e_sts (vs := [_, _]) st 2 rfl rfl rfl rfl rfl Try.sizeOf27 rfl rfl (by first | (right; assumption) | (left; simp)) ?_)
          | refine vc_e (e_sts (vs := [_, _]) st 3 rfl rfl rfl rfl rfl Try.sizeOf27 rfl rfl (by first | (right; assumption) | (left; simp)) ?_)
          | refine vc_e (e_sts (vs := [_, _]) st 4 rfl rfl rfl rfl rfl Try.sizeOf27 rfl rfl (by first | (right; assumption) | (left; simp)) ?_)
          | refine vc_e (e_sts (vs := [_, _]) st 5 rfl rfl rfl rfl rfl Try.sizeOf27 rfl rfl (by first | (right; assumption) | (left; simp)) ?_)
          intro w st; dsimp only [setNth, wr] at st
          refine vc_end ?_
          refine vq_then ?_
          refine vc_keep [(6, _), (10, _), (12, _)] ⟨rfl, rfl, rfl, trivial⟩ ?_
          refine vc_seq ?_
          refine vc_region ?_
          refine vc_y rfl rfl (y_mv rfl) ?_
          refine vc_y rfl rfl (y_eqi rfl rfl) ?_
          refine vc_e (e_mvb rfl rfl rfl ?_ ?_)
          · intro hg69
            try simp only [decide_eq_true_eq, decide_eq_false_iff_not, Bool.not_eq_true', Bool.not_eq_false', Bool.not_eq_true, Bool.not_eq_false, Int.not_lt, Int.not_le, Nat.not_lt, Nat.not_le, Bool.not_true, Bool.not_false, Bool.true_eq_false, Bool.false_eq_true] at hg69
            refine vc_y rfl rfl (y_mv rfl) ?_
            refine vc_y rfl rfl (y_mv rfl) ?_
            have r2 := isToks_own (A := T2.map tvOf) (oa := o2) (cap := c2) (by rw [List.length_map, ← toksL_tv]; exact st.res (i := 3) rfl)
            have r3 := isToks_own (A := T3.map tvOf) (oa := o3) (cap := c3) (by rw [List.length_map, ← toksL_tv]; exact st.res (i := 1) rfl)
            refine vc_e (e_call [_, _, _] rfl rfl Try.call23 rfl (by have h := rsame_any (T2.map tvOf) (T3.map tvOf) o2 o3 c2 c3 false _ r2 r3 (by have := scan_sum _ _ _ _ hsc; unfold maxLen; simp; omega); rw [List.length_map, List.length_map] at h; exact h) ?_)
            rintro _ w ⟨⟨r', rfl, hSame⟩, cw⟩
            obtain rfl : r' = true := hSame.2 (sameP_trip (by rw [trip_tv, trip_tv, hTm, trip_tv]))
            replace st := st.call0 cw
            refine vc_y rfl rfl (y_pickt rfl rfl) ?_
            refine vc_y rfl rfl (y_as rfl) ?_
            refine vc_end ?_
            refine vq_then ?_
            refine vc_keep [(4, _)] ⟨rfl, trivial⟩ ?_
            refine vc_ret ?_
            refine vq_ret1 st (.inl rfl) Try.results13 (.tmp rfl) ?_
            refine ⟨_, rfl, ?_⟩
            exact ⟨rfl, st.chg⟩
          · intro hg69
            (exfalso; simp at hg69)

theorem own13 : ownKnob Try.prog.godebug = none := by kernel_rfl
theorem laidOut13 : laidOutB Try.prog = true := by kernel_rfl
set_option maxRecDepth 100000 in
theorem liftedLexerBack (os : Os) (started : os.Started) (H : Type) (enc : TypeId × Value → H) (F : Stop.Interp) :
    ReturnsInHanded {} Try.checked os 13 .any ((Rows.OpenSpec.upto Rows.lexerBackSpec).pre6 enc Try.prog Try.f13 Rows.lexerBackUptoRow.domain false) (((Rows.OpenSpec.upto Rows.lexerBackSpec).at F).post enc Try.prog Try.f13 false true false false) := by
  refine returnsInHanded_of_cond (C := Try.checked) (s := Rows.OpenSpec.upto Rows.lexerBackSpec) (k := Rows.uptoSmall) rfl own13 started (by kernel_rfl) Try.func13
    (OpenSpec.witness (enc := enc) (C := Try.checked) (s := Rows.OpenSpec.upto Rows.lexerBackSpec) (k := Rows.uptoSmall) rfl false ⟨#[], #[.slice none 0 0, .string ⟨#[]⟩], []⟩ 8 (by kernel_rfl) (by kernel_rfl) (by kernel_rfl)
      (x := ([.nil, .lit (.string [])], [], [])) (by kernel_rfl) rfl (by kernel_rfl)) ?_
  intro W base args ds gs before hval0 hW _ hk _
  have hval : ∀ (j : Nat) t v, Try.f13.params[j]? = some t → args[j]? = some v → Value.okWide Try.prog W .any base t v := hval0
  have hW' := hW
  have hlt := hW.lt
  obtain ⟨p, q, hA0, hV, rfl, hfz, hnd⟩ := hW
  have hA : DataW.TrodAll enc Try.prog W 0 (fun _ => true) true Try.f13.params.toList args.toList ds p := hA0
  have hshut : ∀ W', Below W.heap.size W W' → DataW.TrodAll enc Try.prog W' 0 (fun b => decide (b < W.heap.size)) true Try.f13.params.toList args.toList ds p := fun W' hb => Sx.trodAll_shut laidOut13 hb (by kernel_rfl) hA (fun x hx => hlt x (List.mem_append.2 (.inl hx)))
  rw [Try.params13] at hA hval
  obtain ⟨v0, vs0, d0, ds0, p0, q0, hargs, rfl, rfl, h0, r0⟩ := trodAll_cons hA
  obtain ⟨v1, vs1, d1, ds1, p1, q1, rfl, rfl, rfl, h1, r1⟩ := trodAll_cons r0
  obtain ⟨rfl, rfl, rfl⟩ := trodAll_nil r1
  obtain rfl : args = #[v0, v1] := by cases args; simp_all
  obtain ⟨rfl, rfl⟩ := trodVars_none hV
  obtain ⟨a0, c0, A, rfl, hT, hcp, hbk, hnil⟩ := open_toks (hval 0 24 v0 rfl rfl) h0
  obtain ⟨a1, rfl, rfl, rfl, w1⟩ := open_string Try.underlying9 (hval 1 9 v1 rfl rfl) h1
  clear hA0 hval0
  have hsmall : bulkT A ≤ 1048576 := by
    have h := of_decide_eq_true hk
    simp only [List.cons_append, List.nil_append, Rows.uptoBulkAll] at h
    try simp only [Rows.uptoBulk] at h
    omega
  have hwalk := lawLexerBack A a0 c0 a1.data.toList w1 W hT hsmall
  refine Calls.mono hwalk fun e W' ⟨u, he, hu, hc⟩ => ?_
  subst he
  subst hu
  have bel := hc.below
  exact ⟨_, rfl, _, _, _, [], _, [], hW', trodAll_mk1 (shut_bool Try.underlying4 _), hshut W' bel, rfl, bel.frame _, fun h => by cases h⟩
theorem overLexerBack : Rows.lexerBackUptoRow.holds Try.pinned (Rows.OpenSpec.upto Rows.lexerBackSpec) :=
  OpenClaim.holds_of_cond 13 Try.f13 rfl rfl rfl rfl rfl rfl rfl ⟨rfl, rfl, rfl, rfl, rfl⟩ rfl rfl rfl rfl rfl (by kernel_rfl) Try.func13 (by kernel_rfl)
    (of_decide_eq_true (by kernel_rfl)) (by unfold Func.isWrapper; first | (rw [if_pos (by decide +kernel)]; kernel_rfl) | (rw [if_neg (by decide +kernel)]; exact ⟨rfl, rfl⟩))
    (fun os started H enc _ F => liftedLexerBack os started H enc F)
theorem provedLexerBack : Rows.LexerBackUptoSaid := overLexerBack

end Go.Proofs.Ytakepmhgmgpkkaa
