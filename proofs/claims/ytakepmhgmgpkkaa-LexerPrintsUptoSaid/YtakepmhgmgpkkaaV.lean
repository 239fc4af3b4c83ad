/- A part of the proof: contracts of functions and plain laws; each theorem says its own conditions. -/
import Derived.Test.YtakepmhgmgpkkaaN
import Derived.Test.YtakepmhgmgpkkaaSpec5
import Derived.Test.YtakepmhgmgpkkaaSxOpen
import Derived.WalkKit
import Derived.ProofKit
import Derived.OpenShut
import Derived.ShutString
import Derived.ChangeOld
import Derived.Below
import Derived.JoinedCond
namespace Go.Proofs.Ytakepmhgmgpkkaa
open Go.ChangeShapes Go.WideShapes Go.ChangeAt Go.RowKit
open Go.ChangeMaps (open_string shut_string)
open Sx LexS
set_option linter.unusedVariables false
set_option linter.unusedSimpArgs false
/-! ## tokens that come in -/
def bulkT (A : List TV) : Nat := (A.map fun x => x.t.length + 5).sum
def tokD {H : Type} (x : TV) : DataW H := .agg [.lit (.int .u8 x.k), .lit (.string x.t), .lit (.int .i64 x.wd), .lit (.int .i64 x.a)]
theorem bulk_toks {H : Type} : ∀ (A : List TV), Rows.uptoBulkAll (A.map (tokD (H := H))) = bulkT A
  | [] => rfl
  | x :: A => by
    simp only [List.map_cons, Rows.uptoBulkAll, bulk_toks A, bulkT, List.sum_cons]
    simp only [tokD, Rows.uptoBulk, Rows.uptoBulkAll]
    omega
theorem open_tok {H : Type} {enc : TypeId × Value → H} {W : World} {n : Nat} {cs : List Value} {dd : DataW H} {pp : List MemPlace} (h : DataW.trod enc Try.prog W 0 (fun _ => true) true n 33 cs = some (dd, pp)) : ∃ x : TV, cs = tvL x ∧ dd = tokD x := by
  obtain ⟨xs, m, -, hx, hl, hxl, hf⟩ := DataW.trod_struct Try.underlying33 h
  have c33 : Try.prog.cellsOf 33 = 4 := by kernel_rfl
  have c31 : Try.prog.cellsOf 31 = 1 := by kernel_rfl
  have c9 : Try.prog.cellsOf 9 = 1 := by kernel_rfl
  have c2 : Try.prog.cellsOf 2 = 1 := by kernel_rfl
  have c3 : Try.prog.cellsOf 3 = 1 := by kernel_rfl
  rw [c33] at hl
  match cs, hl with
  | [a0, a1, a2, a3], _ =>
    match xs, hxl with
    | [x0, x1, x2, x3], _ =>
      have h0 := hf 0 _ rfl
      have h1 := hf 1 _ rfl
      have h2 := hf 2 _ rfl
      have h3 := hf 3 _ rfl
      simp only [c31, c9, c2, c3, List.drop_zero, List.drop_succ_cons, List.take_succ_cons, List.take_zero, List.getElem?_cons_zero, List.getElem?_cons_succ] at h0 h1 h2 h3
      obtain ⟨k, e0, d0, -⟩ := DataW.trod_int Try.underlying31 h0
      obtain ⟨s, e1, d1, -⟩ := DataW.trod_string Try.underlying9 h1
      obtain ⟨wd, e2, d2, -⟩ := DataW.trod_int Try.underlying2 h2
      obtain ⟨a, e3, d3, -⟩ := DataW.trod_int Try.underlying3 h3
      obtain ⟨rfl, -⟩ := List.cons.inj e0
      obtain ⟨rfl, -⟩ := List.cons.inj e1
      obtain ⟨rfl, -⟩ := List.cons.inj e2
      obtain ⟨rfl, -⟩ := List.cons.inj e3
      subst d0 d1 d2 d3
      refine ⟨⟨k, s.data.toList, wd, a⟩, rfl, ?_⟩
      simp only [Prod.mk.injEq] at hx
      rw [hx.1]
      rfl
theorem open_toks {H : Type} {enc : TypeId × Value → H} {W : World} {b0 : Nat} {v : Value} {d : DataW H} {ps : List MemPlace} (hval : Value.okWide Try.prog W .any b0 24 v) (h : DataW.Trod enc Try.prog W 0 (fun _ => true) true 24 v d ps) :
    ∃ (oa : Option Addr) (cap : Nat) (A : List TV), v = .slice oa A.length cap ∧ IsToks W oa A ∧ A.length ≤ cap ∧ bulkT A ≤ Rows.uptoBulk d ∧ (oa = none → cap = 0) := by
  obtain ⟨oa, len, cap, rfl, hnil⟩ := Sx.okWide_slice Try.underlying24 hval
  obtain ⟨fuel, hf⟩ := h
  obtain ⟨oa', len', cap', n, elems, rest, hv, hlen, hlc, hcm, -, hd, hrow⟩ := open_row Try.underlying24 (sz := 4) (by kernel_rfl) (by omega) hf
  cases hv
  rcases hrow with rfl | ⟨b, off, rfl, hrow⟩
  · exact ⟨oa, cap, [], rfl, .inl rfl, by simp, by simp [bulkT], fun h => (hnil h).2⟩
  · obtain ⟨A, hA, hP⟩ := exists_list tv0 len (fun j x => elems[j]? = some (tokD x) ∧ ∀ i u, (tvL x)[i]? = some u → W.cell? ⟨b, off + j * 4 + i, none⟩ = some u) (fun j hj => by
      obtain ⟨cs, pp, dd, hcl, he, htr, hc⟩ := hrow j hj
      obtain ⟨x, rfl, rfl⟩ := open_tok htr
      exact ⟨x, he, hc⟩)
    subst hA
    refine ⟨_, cap, A, rfl, .inr ⟨b, off, rfl, fun j hj => ?_⟩, hlc, ?_, fun h => by cases h⟩
    · have h := (hP j hj).2
      exact ⟨by simpa using h 0 _ rfl, h 1 _ rfl, h 2 _ rfl, h 3 _ rfl⟩
    · have he : elems = A.map tokD := by
        apply List.ext_getElem?
        intro j
        rcases Nat.lt_or_ge j A.length with hj | hj
        · rw [(hP j hj).1]; simp [List.getD, List.getElem?_eq_getElem hj]
        · rw [List.getElem?_eq_none (by omega), List.getElem?_eq_none (by simpa using hj)]
      rcases hd with ⟨rfl, hl0, -, -⟩ | rfl
      · have : A = [] := List.eq_nil_of_length_eq_zero hl0
        subst this
        simp [bulkT]
      · simp only [Rows.uptoBulk]
        rw [he, bulk_toks]; omega
theorem toks_cell {w : World} {g off : Nat} {A : List TV} (h : ∀ j, j < A.length →
  w.cell? ⟨g, off + j * 4, none⟩ = some (.int .u8 (A.getD j tv0).k) ∧ w.cell? ⟨g, off + j * 4 + 1, none⟩ = some (str (A.getD j tv0).t) ∧
  w.cell? ⟨g, off + j * 4 + 2, none⟩ = some (.int .i64 (A.getD j tv0).wd) ∧ w.cell? ⟨g, off + j * 4 + 3, none⟩ = some (.int .i64 (A.getD j tv0).a)) {j : Nat} (hj : j < A.length) :
    ∀ i u, (tvL (A.getD j tv0))[i]? = some u → w.cell? ⟨g, off + j * 4 + i, none⟩ = some u := by
  intro i u hi
  obtain ⟨h0, h1, h2, h3⟩ := h j hj
  match i, hi with
  | 0, hi => simp [tvL] at hi; subst hi; exact h0
  | 1, hi => simp [tvL] at hi; subst hi; exact h1
  | 2, hi => simp [tvL] at hi; subst hi; exact h2
  | 3, hi => simp [tvL] at hi; subst hi; exact h3
theorem bulk_le {A : List TV} {x : TV} (h : x ∈ A) : x.t.length + 5 ≤ bulkT A := by
  induction A with
  | nil => simp at h
  | cons y A ih =>
    simp only [bulkT, List.map_cons, List.sum_cons] at ih ⊢
    rcases List.mem_cons.1 h with rfl | h
    · omega
    · have := ih h; omega
theorem bulk_len (A : List TV) : A.length * 5 ≤ bulkT A := by
  induction A with
  | nil => simp [bulkT]
  | cons y A ih => simp only [bulkT, List.map_cons, List.sum_cons, List.length_cons] at ih ⊢; omega
theorem getD_mem {A : List TV} {j : Nat} (h : j < A.length) : A.getD j tv0 ∈ A := by
  simp [List.getD, List.getElem?_eq_getElem h]
/-! ## printing -/
def rgtT (x : TV) : Bool := rgtB x.t x.k x.wd
def txts (A : List TV) : List (List UInt8) := A.map (·.t)
def sumT (A : List TV) : Nat := (A.map fun x => x.t.length).sum
def prtRes (A : List TV) : List UInt8 × Nat := if A.all rgtT = false then ([], 2) else if 65536 < sumT A + (A.length - 1) then ([], 4) else (joinB (txts A), 0)
theorem sumT_take {A : List TV} {j : Nat} (h : j < A.length) : sumT (A.take (j + 1)) = sumT (A.take j) + (A.getD j tv0).t.length := by
  unfold sumT
  rw [List.take_succ_eq_append_getElem h, List.map_append, List.sum_append]
  simp only [List.map_cons, List.map_nil, List.sum_cons, List.sum_nil, List.getD, List.getElem?_eq_getElem h, Option.getD_some, Nat.add_zero]
theorem sumT_take_le (A : List TV) (j : Nat) : sumT (A.take j) ≤ sumT A := by
  induction A generalizing j with
  | nil => simp [sumT]
  | cons x A ih => cases j with
    | zero => simp [sumT]
    | succ j => have := ih j; simp only [sumT, List.take_succ_cons, List.map_cons, List.sum_cons] at this ⊢; omega
theorem sumT_bulk (A : List TV) : sumT A + A.length * 5 = bulkT A := by
  induction A with
  | nil => rfl
  | cons y A ih => simp only [sumT, bulkT, List.map_cons, List.sum_cons, List.length_cons] at ih ⊢; omega
theorem all_take {A : List TV} {j : Nat} (h : j < A.length) (ha : (A.take j).all rgtT = true) (hr : rgtT (A.getD j tv0) = true) : (A.take (j + 1)).all rgtT = true := by
  rw [List.take_succ_eq_append_getElem h, List.all_append, ha]
  simpa [List.getD, List.getElem?_eq_getElem h] using hr
theorem all_not {A : List TV} {j : Nat} (h : j < A.length) (hr : rgtT (A.getD j tv0) = false) : A.all rgtT = false := by
  rw [List.all_eq_false]
  exact ⟨A.getD j tv0, getD_mem h, by rw [hr]; simp⟩
theorem int_congr {k : IntKind} {a b : Int} (h : a = b) : some (Value.int k a) = some (Value.int k b) := by rw [h]
theorem Try.info9 : Try.prog.info? 9 = some Try.t9 := by kernel_rfl
theorem Try.info5 : Try.prog.info? 5 = some Try.t5 := by kernel_rfl
abbrev strsL (l : List (List UInt8)) : List Value := l.map str
theorem txts_take {A : List TV} {j : Nat} (h : j < A.length) : txts (A.take (j + 1)) = txts (A.take j) ++ [(A.getD j tv0).t] := by
  unfold txts
  rw [List.take_succ_eq_append_getElem h, List.map_append]
  simp only [List.map_cons, List.map_nil, List.getD, List.getElem?_eq_getElem h, Option.getD_some]
theorem joinB_eq (l : List (List UInt8)) : Lib.join l [32] = joinB l := by
  unfold Lib.join
  match l with
  | [] => rfl
  | [x] => simp [joinB, List.intercalate]
  | x :: y :: r =>
    have ih := joinB_eq (y :: r)
    unfold Lib.join at ih
    simp only [joinB]
    rw [← ih]
    simp [List.intercalate]
theorem joinB_snoc : ∀ (l : List (List UInt8)) (x : List UInt8), l ≠ [] → joinB (l ++ [x]) = joinB l ++ [32] ++ x
  | [], x, h => absurd rfl h
  | [y], x, _ => by simp [joinB]
  | y :: z :: r, x, _ => by
    have ih := joinB_snoc (z :: r) x (by simp)
    simp only [List.cons_append, joinB] at ih ⊢
    rw [ih]; simp
theorem joinB_len : ∀ (l : List (List UInt8)), (joinB l).length = (l.map (·.length)).sum + (l.length - 1)
  | [] => rfl
  | [x] => by simp [joinB]
  | x :: y :: r => by
    have ih := joinB_len (y :: r)
    simp only [joinB, List.length_append, List.length_cons, List.map_cons, List.sum_cons] at ih ⊢
    omega
theorem joinA_len (A : List TV) : (joinB (txts A)).length = sumT A + (A.length - 1) := by
  rw [joinB_len]; simp [txts, sumT, Function.comp_def]
theorem joinS_any (l : List (List UInt8)) (oa : Option Addr) (cap base : Nat) (w : World) (ho : w.ownsRow base 9 1 (.slice oa l.length cap) l.length (strsL l)) (hlen : (joinB l).length ≤ 140737488355328) (hl : l.length ≤ 140737488355328) :
    Ret Try.prog 41 [.slice oa l.length cap, str [32]] w fun v w' => v = str (joinB l) ∧ Chg [] w w' := by
  rcases l with _ | ⟨x, r⟩
  · refine Calls.mono (Try.strings_Join_none oa cap ⟨[32].toArray⟩ w) ?_
    rintro e w' ⟨rfl, rfl⟩
    exact ⟨_, rfl, rfl, Chg.refl _ _⟩
  · obtain ⟨g, cap', e, hg⟩ := own_form ho (by simp)
    simp only [Value.slice.injEq] at e
    obtain ⟨rfl, -, rfl⟩ := e
    have hblk := (World.ownsRow.lt ho g (by simp [Value.ownBlock])).2
    have hcap : (x :: r).length ≤ cap := by
      rcases ho.2 with ⟨h, _⟩ | ⟨g', c', cur, h, _, _, h1, _⟩
      · cases h
      · simp only [Value.slice.injEq] at h; omega
    have hm : ((x :: r).map fun t => (⟨t.toArray⟩ : ByteArray)).map (·.data.toList) = x :: r := by simp [Function.comp_def]
    have key := Try.strings_Join g 0 cap ((x :: r).map fun t => (⟨t.toArray⟩ : ByteArray)) ⟨[32].toArray⟩ w (fun j y hj => by
      rw [Nat.zero_add]
      refine own_cell ho ?_
      rw [List.getElem?_map] at hj ⊢
      cases hq : (x :: r)[j]? with
      | none => rw [hq] at hj; cases hj
      | some q => rw [hq] at hj; cases hj; rfl) hblk (by simpa using hl) (by simpa using hcap) (by rw [hm]; show (Lib.join (x :: r) [32]).length ≤ _; rw [joinB_eq]; exact hlen)
    rw [hm, List.length_map] at key
    refine Calls.mono key ?_
    rintro e w' ⟨rfl, hb⟩
    refine ⟨_, rfl, ?_, Chg.of_below hb⟩
    show Value.string ⟨(Lib.join (x :: r) [32]).toArray⟩ = _
    rw [joinB_eq]
theorem numV_R (l : List UInt8) : numV l = if (numR l).2 = true then some (numR l).1 else none := by
  unfold numV numR
  split <;> simp
theorem rgt_nx {t : List UInt8} {k0 wd0 : Int} {k : Int} {u : List UInt8} {wd a : Int} {ok : Bool} {j fa fr : Int} (h : NxRel t 0 k u wd a ok j fa fr) :
    (ok = true ∧ j = t.length ∧ a = 0 ∧ k = k0 ∧ wd = wd0) ↔ rgtB t k0 wd0 = true := by
  have hsl := skip_le t
  constructor
  · rintro ⟨rfl, hj, ha, rfl, rfl⟩
    rcases h with ⟨_, x, hlt, hx, h1, h2, h3, h4, h5, _⟩ | ⟨h, _⟩ | ⟨h, _⟩
    · have hl := tok_len hx
      have hs : skip t = 0 := by
        rw [h4, hl.2.2] at ha; simp at ha; omega
      simp only [Nat.zero_add, List.drop_zero, hs] at hx h5
      have hlen : x.text.length = t.length := by omega
      have ht : x.text = t := by have := hl.2.1; simp only [Nat.zero_add, List.drop_zero, hs, hlen, List.take_length] at this; exact this
      unfold rgtB
      rw [hx]
      simp [ht, h1, h3]
    · cases h
    · cases h
  · intro hr
    obtain ⟨y, hy, h1, h2, h3⟩ := rgt_tok hr
    have hs := rgt_skip hy h1
    have hly := tok_len hy
    simp only [NxRel, Nat.zero_add, List.drop_zero, hs, hy] at h
    rcases h with ⟨h, x, hlt, hx, a1, a2, a3, a4, a5, _⟩ | ⟨_, hle, _⟩ | ⟨_, rule, p, _, hx, _⟩
    · cases hx
      exact ⟨h, by rw [a5, h1], by rw [a4, hly.2.2]; rfl, by rw [a1, h2], by rw [a3, h3]⟩
    · rw [h1] at hly; omega
    · cases hx

set_option maxHeartbeats 1000000 in
theorem right_any (x : TV) (w : World) (hx : x.t.length ≤ 2000000) : Ret Try.prog 40 [.agg (tvL x).toArray] w fun v w' => v = .bool (rgtT x) ∧ Chg [] w w' := by
  refine ret_of [_] Try.func40 rfl Try.ntmps40 rfl ?_
  have st := St.init w []
  refine vc_seq ?_
  refine vc_region ?_
  refine vc_e (e_bx (l := [_, _, _, _]) st rfl rfl rfl rfl ?_)
  intro b1 w hb1 st
  refine vc_y rfl rfl (y_as rfl) ?_
  refine vc_end ?_
  refine vq_then ?_
  refine vc_keep [(1, _)] ⟨rfl, trivial⟩ ?_
  refine vc_seq ?_
  refine vc_region ?_
  refine vc_y rfl rfl ((by first | exact y_faz (k := 1) rfl Try.underlying33 rfl rfl Try.sizeOf9 rfl | exact y_fa (k := 1) rfl Try.underlying33 rfl rfl Try.sizeOf9 rfl)) ?_
  refine vc_y rfl rfl ((by first | exact y_ld st 0 rfl Try.isAgg9 rfl rfl | exact y_ld st 1 rfl Try.isAgg9 rfl rfl | exact y_ld st 2 rfl Try.isAgg9 rfl rfl | exact y_ld st 3 rfl Try.isAgg9 rfl rfl | exact y_ld st 4 rfl Try.isAgg9 rfl rfl)) ?_
  refine vc_y rfl rfl (y_bld (.agg #[_, _, _, _]) [(0, _)] rfl (fun w => by simp [Instr.build, go_sem] <;> repeat' constructor)) ?_
  refine vc_e (e_bx (l := [_, _, _, _]) st rfl rfl rfl rfl ?_)
  intro b9 w hb9 st
  refine vc_y rfl rfl (y_as rfl) ?_
  refine vc_end ?_
  refine vq_then ?_
  refine vc_keep [(1, _), (3, _)] ⟨rfl, rfl, trivial⟩ ?_
  refine vc_seq ?_
  refine vc_region ?_
  refine vc_y rfl rfl (y_mv rfl) ?_
  refine vc_e (e_call [_] rfl rfl Try.call35 rfl (next_any b9 x.t 0 _ (st.res (i := 0) rfl) (by omega) (by omega)) ?_)
  rintro _ w ⟨cw, hp⟩
  obtain ⟨k, t, wd, a, ok, j, fa, fr, rfl, hw, hrel⟩ := nx_flat hp
  replace st := st.turn (i := 0) (r' := .blk b9 _) rfl rfl rfl cw (.inr (by assumption)) hw
  dsimp only [setNth] at st
  refine vc_y rfl rfl (y_mv rfl) ?_
  refine vc_y rfl rfl (y_ext rfl rfl) ?_
  refine vc_y rfl rfl (y_ext rfl rfl) ?_
  refine vc_e (e_al (l := [_, _, _, _]) st rfl rfl Try.zeroValue33 rfl ?_)
  intro b4 w hb4 st
  first
  | refine vc_e (e_sts (vs := [_, _, _, _]) st 0 rfl rfl rfl rfl rfl Try.sizeOf33 rfl rfl (by first | (right; assumption) | (left; simp)) ?_)
  | refine vc_e (e_sts (vs := [_, _, _, _]) st 1 rfl rfl rfl rfl rfl Try.sizeOf33 rfl rfl (by first | (right; assumption) | (left; simp)) ?_)
  | refine vc_e (e_sts (vs := [_, _, _, _]) st 2 rfl rfl rfl rfl rfl Try.sizeOf33 rfl rfl (by first | (right; assumption) | (left; simp)) ?_)
  | refine vc_e (e_sts (vs := [_, _, _, _]) st 3 rfl rfl rfl rfl rfl Try.sizeOf33 rfl rfl (by first | (right; assumption) | (left; simp)) ?_)
  | refine vc_e (e_sts (vs := [_, _, _, _]) st 4 rfl rfl rfl rfl rfl Try.sizeOf33 rfl rfl (by first | (right; assumption) | (left; simp)) ?_)
  intro w st; dsimp only [setNth, wr] at st
  refine vc_y rfl rfl (y_as rfl) ?_
  refine vc_end ?_
  refine vq_then ?_
  refine vc_keep [(1, _), (3, _), (4, _), (5, _)] ⟨rfl, rfl, rfl, rfl, trivial⟩ ?_
  refine vc_seq ?_
  refine vc_draw Try.mixed [(0, true), (1, true), (2, true), (3, true), (4, true), (5, true), (6, true), (7, true), (8, true), (9, true), (10, true), (11, true), (12, true), (13, true), (14, true), (15, true), (16, true), (17, true), (18, true), (19, true), (20, true), (21, true), (22, true), (23, true), (24, true), (25, true), (26, true), (27, true), (28, true), (29, true), (30, true)] (fun w => St _ _ _ w) st (by kernel_rfl) (by repeat (first | exact okQ_body | refine okQ_then ?_ | refine okQ_block ?_)) rfl (by kernel_rfl) ?_
  intro w cd; replace st := st.call0 cd; clear cd
  have hS := st
  refine vp_take rfl rfl rfl hS (fun w st => y_mv rfl) ?_
  refine vp_part rfl rfl rfl hS rfl ?_ ?_
  · intro hg16
    try simp only [decide_eq_true_eq, decide_eq_false_iff_not, Bool.not_eq_true', Bool.not_eq_false', Bool.not_eq_true, Bool.not_eq_false, Int.not_lt, Int.not_le, Nat.not_lt, Nat.not_le, Bool.not_true, Bool.not_false, Bool.true_eq_false, Bool.false_eq_true] at hg16
    refine vp_take rfl rfl rfl hS (fun w st => y_mv rfl) ?_
    refine vp_take rfl rfl rfl hS (fun w st => y_nck rfl) ?_
    refine vp_take rfl rfl rfl hS (fun w st => (by first | exact y_faz (k := 1) rfl Try.underlying51 rfl rfl Try.sizeOf3 rfl | exact y_fa (k := 1) rfl Try.underlying51 rfl rfl Try.sizeOf3 rfl)) ?_
    refine vp_take rfl rfl rfl hS (fun w st => (by first | exact y_ld st 0 rfl Try.isAgg3 rfl rfl | exact y_ld st 1 rfl Try.isAgg3 rfl rfl | exact y_ld st 2 rfl Try.isAgg3 rfl rfl | exact y_ld st 3 rfl Try.isAgg3 rfl rfl | exact y_ld st 4 rfl Try.isAgg3 rfl rfl)) ?_
    refine vp_take rfl rfl rfl hS (fun w st => (by first | exact y_faz (k := 1) rfl Try.underlying33 rfl rfl Try.sizeOf9 rfl | exact y_fa (k := 1) rfl Try.underlying33 rfl rfl Try.sizeOf9 rfl)) ?_
    refine vp_take rfl rfl rfl hS (fun w st => (by first | exact y_ld st 0 rfl Try.isAgg9 rfl rfl | exact y_ld st 1 rfl Try.isAgg9 rfl rfl | exact y_ld st 2 rfl Try.isAgg9 rfl rfl | exact y_ld st 3 rfl Try.isAgg9 rfl rfl | exact y_ld st 4 rfl Try.isAgg9 rfl rfl)) ?_
    refine vp_take rfl rfl rfl hS (fun w st => y_lens rfl Try.underlying9) ?_
    refine vp_take rfl rfl rfl hS (fun w st => y_eqi rfl rfl) ?_
    refine vp_take rfl rfl rfl hS (fun w st => y_pickt rfl rfl) ?_
    refine vp_part rfl rfl rfl hS rfl ?_ ?_
    · intro hg26
      try simp only [decide_eq_true_eq, decide_eq_false_iff_not, Bool.not_eq_true', Bool.not_eq_false', Bool.not_eq_true, Bool.not_eq_false, Int.not_lt, Int.not_le, Nat.not_lt, Nat.not_le, Bool.not_true, Bool.not_false, Bool.true_eq_false, Bool.false_eq_true] at hg26
      refine vp_take rfl rfl rfl hS (fun w st => (by first | exact y_faz (k := 3) rfl Try.underlying33 rfl rfl Try.sizeOf3 rfl | exact y_fa (k := 3) rfl Try.underlying33 rfl rfl Try.sizeOf3 rfl)) ?_
      refine vp_take rfl rfl rfl hS (fun w st => (by first | exact y_ld st 0 rfl Try.isAgg3 rfl rfl | exact y_ld st 1 rfl Try.isAgg3 rfl rfl | exact y_ld st 2 rfl Try.isAgg3 rfl rfl | exact y_ld st 3 rfl Try.isAgg3 rfl rfl | exact y_ld st 4 rfl Try.isAgg3 rfl rfl)) ?_
      refine vp_take rfl rfl rfl hS (fun w st => y_eqi rfl rfl) ?_
      refine vp_take rfl rfl rfl hS (fun w st => y_pickt rfl rfl) ?_
      refine vp_part rfl rfl rfl hS rfl ?_ ?_
      · intro hg31
        try simp only [decide_eq_true_eq, decide_eq_false_iff_not, Bool.not_eq_true', Bool.not_eq_false', Bool.not_eq_true, Bool.not_eq_false, Int.not_lt, Int.not_le, Nat.not_lt, Nat.not_le, Bool.not_true, Bool.not_false, Bool.true_eq_false, Bool.false_eq_true] at hg31
        refine vp_take rfl rfl rfl hS (fun w st => y_fa0 rfl Try.underlying33 rfl rfl Try.sizeOf31 rfl) ?_
        refine vp_take rfl rfl rfl hS (fun w st => (by first | exact y_ld st 0 rfl Try.isAgg31 rfl rfl | exact y_ld st 1 rfl Try.isAgg31 rfl rfl | exact y_ld st 2 rfl Try.isAgg31 rfl rfl | exact y_ld st 3 rfl Try.isAgg31 rfl rfl | exact y_ld st 4 rfl Try.isAgg31 rfl rfl)) ?_
        refine vp_take rfl rfl rfl hS (fun w st => y_fa0 rfl Try.underlying33 rfl rfl Try.sizeOf31 rfl) ?_
        refine vp_take rfl rfl rfl hS (fun w st => (by first | exact y_ld st 0 rfl Try.isAgg31 rfl rfl | exact y_ld st 1 rfl Try.isAgg31 rfl rfl | exact y_ld st 2 rfl Try.isAgg31 rfl rfl | exact y_ld st 3 rfl Try.isAgg31 rfl rfl | exact y_ld st 4 rfl Try.isAgg31 rfl rfl)) ?_
        refine vp_take rfl rfl rfl hS (fun w st => y_eqi rfl rfl) ?_
        refine vp_take rfl rfl rfl hS (fun w st => y_pickt rfl rfl) ?_
        refine vp_part rfl rfl rfl hS rfl ?_ ?_
        · intro hg38
          try simp only [decide_eq_true_eq, decide_eq_false_iff_not, Bool.not_eq_true', Bool.not_eq_false', Bool.not_eq_true, Bool.not_eq_false, Int.not_lt, Int.not_le, Nat.not_lt, Nat.not_le, Bool.not_true, Bool.not_false, Bool.true_eq_false, Bool.false_eq_true] at hg38
          refine vp_take rfl rfl rfl hS (fun w st => (by first | exact y_faz (k := 2) rfl Try.underlying33 rfl rfl Try.sizeOf2 rfl | exact y_fa (k := 2) rfl Try.underlying33 rfl rfl Try.sizeOf2 rfl)) ?_
          refine vp_take rfl rfl rfl hS (fun w st => (by first | exact y_ld st 0 rfl Try.isAgg2 rfl rfl | exact y_ld st 1 rfl Try.isAgg2 rfl rfl | exact y_ld st 2 rfl Try.isAgg2 rfl rfl | exact y_ld st 3 rfl Try.isAgg2 rfl rfl | exact y_ld st 4 rfl Try.isAgg2 rfl rfl)) ?_
          refine vp_take rfl rfl rfl hS (fun w st => (by first | exact y_faz (k := 2) rfl Try.underlying33 rfl rfl Try.sizeOf2 rfl | exact y_fa (k := 2) rfl Try.underlying33 rfl rfl Try.sizeOf2 rfl)) ?_
          refine vp_take rfl rfl rfl hS (fun w st => (by first | exact y_ld st 0 rfl Try.isAgg2 rfl rfl | exact y_ld st 1 rfl Try.isAgg2 rfl rfl | exact y_ld st 2 rfl Try.isAgg2 rfl rfl | exact y_ld st 3 rfl Try.isAgg2 rfl rfl | exact y_ld st 4 rfl Try.isAgg2 rfl rfl)) ?_
          refine vp_take rfl rfl rfl hS (fun w st => y_eqi rfl rfl) ?_
          refine vp_take rfl rfl rfl hS (fun w st => y_pickt rfl rfl) ?_
          refine vp_take rfl rfl rfl hS (fun w st => y_as rfl) ?_
          refine vp_end ?_
          refine vq_then ?_
          refine vc_keep [(2, _)] ⟨rfl, trivial⟩ ?_
          refine vc_ret ?_
          refine vq_ret1 st (.inl rfl) Try.results40 (.tmp rfl) ?_
          refine ⟨_, rfl, ?_⟩
          refine ⟨?_, st.chg⟩
          have hiff := rgt_nx (k0 := x.k) (wd0 := x.wd) hrel
          show Value.bool _ = Value.bool _
          congr 1
          unfold rgtT
          rw [Bool.eq_iff_iff, ← hiff]
          simp [*]
        · intro hg38
          try simp only [decide_eq_true_eq, decide_eq_false_iff_not, Bool.not_eq_true', Bool.not_eq_false', Bool.not_eq_true, Bool.not_eq_false, Int.not_lt, Int.not_le, Nat.not_lt, Nat.not_le, Bool.not_true, Bool.not_false, Bool.true_eq_false, Bool.false_eq_true] at hg38
          refine vp_skip rfl rfl rfl hS ?_
          refine vp_skip rfl rfl rfl hS ?_
          refine vp_skip rfl rfl rfl hS ?_
          refine vp_skip rfl rfl rfl hS ?_
          refine vp_skip rfl rfl rfl hS ?_
          refine vp_take rfl rfl rfl hS (fun w st => y_pickf rfl rfl) ?_
          refine vp_take rfl rfl rfl hS (fun w st => y_as rfl) ?_
          refine vp_end ?_
          refine vq_then ?_
          refine vc_keep [(2, _)] ⟨rfl, trivial⟩ ?_
          refine vc_ret ?_
          refine vq_ret1 st (.inl rfl) Try.results40 (.tmp rfl) ?_
          refine ⟨_, rfl, ?_⟩
          refine ⟨?_, st.chg⟩
          have hiff := rgt_nx (k0 := x.k) (wd0 := x.wd) hrel
          show Value.bool _ = Value.bool _
          congr 1
          unfold rgtT
          rw [Bool.eq_iff_iff, ← hiff]
          simp [*]
      · intro hg31
        try simp only [decide_eq_true_eq, decide_eq_false_iff_not, Bool.not_eq_true', Bool.not_eq_false', Bool.not_eq_true, Bool.not_eq_false, Int.not_lt, Int.not_le, Nat.not_lt, Nat.not_le, Bool.not_true, Bool.not_false, Bool.true_eq_false, Bool.false_eq_true] at hg31
        refine vp_skip rfl rfl rfl hS ?_
        refine vp_skip rfl rfl rfl hS ?_
        refine vp_skip rfl rfl rfl hS ?_
        refine vp_skip rfl rfl rfl hS ?_
        refine vp_skip rfl rfl rfl hS ?_
        refine vp_take rfl rfl rfl hS (fun w st => y_pickf rfl rfl) ?_
        refine vp_take rfl rfl rfl hS (fun w st => y_mv rfl) ?_
        refine vp_skip rfl rfl rfl hS ?_
        refine vp_skip rfl rfl rfl hS ?_
        refine vp_skip rfl rfl rfl hS ?_
        refine vp_skip rfl rfl rfl hS ?_
        refine vp_skip rfl rfl rfl hS ?_
        refine vp_take rfl rfl rfl hS (fun w st => y_pickf rfl rfl) ?_
        refine vp_take rfl rfl rfl hS (fun w st => y_as rfl) ?_
        refine vp_end ?_
        refine vq_then ?_
        refine vc_keep [(2, _)] ⟨rfl, trivial⟩ ?_
        refine vc_ret ?_
        refine vq_ret1 st (.inl rfl) Try.results40 (.tmp rfl) ?_
        refine ⟨_, rfl, ?_⟩
        refine ⟨?_, st.chg⟩
        have hiff := rgt_nx (k0 := x.k) (wd0 := x.wd) hrel
        show Value.bool _ = Value.bool _
        congr 1
        unfold rgtT
        rw [Bool.eq_iff_iff, ← hiff]
        simp [*]
    · intro hg26
      try simp only [decide_eq_true_eq, decide_eq_false_iff_not, Bool.not_eq_true', Bool.not_eq_false', Bool.not_eq_true, Bool.not_eq_false, Int.not_lt, Int.not_le, Nat.not_lt, Nat.not_le, Bool.not_true, Bool.not_false, Bool.true_eq_false, Bool.false_eq_true] at hg26
      refine vp_skip rfl rfl rfl hS ?_
      refine vp_skip rfl rfl rfl hS ?_
      refine vp_skip rfl rfl rfl hS ?_
      refine vp_take rfl rfl rfl hS (fun w st => y_pickf rfl rfl) ?_
      refine vp_take rfl rfl rfl hS (fun w st => y_mv rfl) ?_
      refine vp_skip rfl rfl rfl hS ?_
      refine vp_skip rfl rfl rfl hS ?_
      refine vp_skip rfl rfl rfl hS ?_
      refine vp_skip rfl rfl rfl hS ?_
      refine vp_skip rfl rfl rfl hS ?_
      refine vp_take rfl rfl rfl hS (fun w st => y_pickf rfl rfl) ?_
      refine vp_take rfl rfl rfl hS (fun w st => y_mv rfl) ?_
      refine vp_skip rfl rfl rfl hS ?_
      refine vp_skip rfl rfl rfl hS ?_
      refine vp_skip rfl rfl rfl hS ?_
      refine vp_skip rfl rfl rfl hS ?_
      refine vp_skip rfl rfl rfl hS ?_
      refine vp_take rfl rfl rfl hS (fun w st => y_pickf rfl rfl) ?_
      refine vp_take rfl rfl rfl hS (fun w st => y_as rfl) ?_
      refine vp_end ?_
      refine vq_then ?_
      refine vc_keep [(2, _)] ⟨rfl, trivial⟩ ?_
      refine vc_ret ?_
      refine vq_ret1 st (.inl rfl) Try.results40 (.tmp rfl) ?_
      refine ⟨_, rfl, ?_⟩
      refine ⟨?_, st.chg⟩
      have hiff := rgt_nx (k0 := x.k) (wd0 := x.wd) hrel
      show Value.bool _ = Value.bool _
      congr 1
      unfold rgtT
      rw [Bool.eq_iff_iff, ← hiff]
      simp [*]
  · intro hg16
    try simp only [decide_eq_true_eq, decide_eq_false_iff_not, Bool.not_eq_true', Bool.not_eq_false', Bool.not_eq_true, Bool.not_eq_false, Int.not_lt, Int.not_le, Nat.not_lt, Nat.not_le, Bool.not_true, Bool.not_false, Bool.true_eq_false, Bool.false_eq_true] at hg16
    refine vp_skip rfl rfl rfl hS ?_
    refine vp_skip rfl rfl rfl hS ?_
    refine vp_skip rfl rfl rfl hS ?_
    refine vp_skip rfl rfl rfl hS ?_
    refine vp_skip rfl rfl rfl hS ?_
    refine vp_skip rfl rfl rfl hS ?_
    refine vp_skip rfl rfl rfl hS ?_
    refine vp_skip rfl rfl rfl hS ?_
    refine vp_take rfl rfl rfl hS (fun w st => y_pickf rfl rfl) ?_
    refine vp_take rfl rfl rfl hS (fun w st => y_mv rfl) ?_
    refine vp_skip rfl rfl rfl hS ?_
    refine vp_skip rfl rfl rfl hS ?_
    refine vp_skip rfl rfl rfl hS ?_
    refine vp_take rfl rfl rfl hS (fun w st => y_pickf rfl rfl) ?_
    refine vp_take rfl rfl rfl hS (fun w st => y_mv rfl) ?_
    refine vp_skip rfl rfl rfl hS ?_
    refine vp_skip rfl rfl rfl hS ?_
    refine vp_skip rfl rfl rfl hS ?_
    refine vp_skip rfl rfl rfl hS ?_
    refine vp_skip rfl rfl rfl hS ?_
    refine vp_take rfl rfl rfl hS (fun w st => y_pickf rfl rfl) ?_
    refine vp_take rfl rfl rfl hS (fun w st => y_mv rfl) ?_
    refine vp_skip rfl rfl rfl hS ?_
    refine vp_skip rfl rfl rfl hS ?_
    refine vp_skip rfl rfl rfl hS ?_
    refine vp_skip rfl rfl rfl hS ?_
    refine vp_skip rfl rfl rfl hS ?_
    refine vp_take rfl rfl rfl hS (fun w st => y_pickf rfl rfl) ?_
    refine vp_take rfl rfl rfl hS (fun w st => y_as rfl) ?_
    refine vp_end ?_
    refine vq_then ?_
    refine vc_keep [(2, _)] ⟨rfl, trivial⟩ ?_
    refine vc_ret ?_
    refine vq_ret1 st (.inl rfl) Try.results40 (.tmp rfl) ?_
    refine ⟨_, rfl, ?_⟩
    refine ⟨?_, st.chg⟩
    have hiff := rgt_nx (k0 := x.k) (wd0 := x.wd) hrel
    show Value.bool _ = Value.bool _
    congr 1
    unfold rgtT
    rw [Bool.eq_iff_iff, ← hiff]
    simp [*]

set_option maxHeartbeats 1000000 in
theorem print_any (A : List TV) (oa : Option Addr) (cap : Nat) (w : World) (hA : IsToks w oa A) (hb : bulkT A ≤ 1100000) : Ret Try.prog 28 [.slice oa A.length cap] w fun v w' => v = .tuple [str (prtRes A).1, .int .i64 ((prtRes A).2 : Int)].toArray ∧ Chg [] w w' := by
  refine ret_of [_] Try.func28 rfl Try.ntmps28 rfl ?_
  have st := St.init w []
  have hbl := bulk_len A
  have hsb := sumT_bulk A
  refine vc_seq ?_
  refine vc_region ?_
  refine vc_y rfl rfl (y_as rfl) ?_
  refine vc_y rfl rfl (y_as rfl) ?_
  refine vc_end ?_
  refine vq_then ?_
  refine vc_keep [(0, _)] ⟨rfl, trivial⟩ ?_
  refine vc_seq ?_
  refine vc_region ?_
  refine vc_y rfl rfl (y_mv rfl) ?_
  refine vc_y rfl rfl (y_lensl rfl Try.underlying24) ?_
  refine vc_y rfl rfl (y_sub rfl rfl rfl (by omega) (by omega)) ?_
  refine vc_y rfl rfl (y_max rfl rfl) ?_
  refine vc_y rfl rfl (y_as rfl) ?_
  refine vc_end ?_
  refine vq_then ?_
  refine vc_keep [(0, _), (4, _)] ⟨rfl, rfl, trivial⟩ ?_
  refine vc_seq ?_
  refine vc_seq ?_
  refine vc_region ?_
  refine vc_y rfl rfl (y_mv rfl) ?_
  refine vc_y rfl rfl (y_lensl rfl Try.underlying24) ?_
  refine vc_y rfl rfl (y_mv rfl) ?_
  refine vc_end ?_
  refine vq_then ?_
  refine vc_keep [(0, _), (4, _), (14, _), (15, _), (16, _)] ⟨rfl, rfl, rfl, rfl, rfl, trivial⟩ ?_
  refine vc_block ?_
  refine vc_loop (w0 := _) (M := _) (fun (j : Nat) => [(0, .slice oa A.length cap), (4, .int .i64 ((sumT (A.take j) + (A.length - 1) : Nat) : Int)), (14, .slice oa A.length cap), (15, .int .i64 (A.length : Int)), (16, .int .i64 (j : Int))]) (fun _ => []) (fun j _ => j ≤ A.length ∧ (A.take j).all rgtT = true) (fun j => A.length - j) 0 ⟨rfl, int_congr (by simp only [List.take_zero]; rw [show sumT [] = 0 from rfl]; omega), rfl, rfl, rfl, trivial⟩ st ⟨by omega, by simp⟩ ?_
  rintro j w ⟨hj, hall⟩ st
  have hst := sumT_take_le A j
  refine vc_seq ?_
  refine vc_region ?_
  refine vc_y rfl rfl (y_lss rfl rfl) ?_
  refine vc_end ?_
  refine vq_then ?_
  refine vc_keep [(0, _), (4, _), (14, _), (15, _), (16, _), (17, _)] ⟨rfl, rfl, rfl, rfl, rfl, rfl, trivial⟩ ?_
  refine vc_seq ?_
  refine vc_ifs rfl ?_ ?_
  · intro hc17
    try simp only [decide_eq_true_eq, decide_eq_false_iff_not, Bool.not_eq_true', Bool.not_eq_false', Bool.not_eq_true, Bool.not_eq_false, Int.not_lt, Int.not_le, Nat.not_lt, Nat.not_le, Bool.not_true, Bool.not_false, Bool.true_eq_false, Bool.false_eq_true] at hc17
    obtain ⟨ga, fa, rfl, hta⟩ := hA.resolve_left (by intro h; have := congrArg List.length h; simp only [List.length_nil] at this; omega)
    have hbx := bulk_le (getD_mem (A := A) (j := j) (by omega))
    have hstp := sumT_take (A := A) (j := j) (by omega)
    have hst1 := sumT_take_le A (j + 1)
    refine vc_code_skip ?_
    refine vq_then ?_
    refine vc_keep [(0, _), (4, _), (14, _), (15, _), (16, _)] ⟨rfl, rfl, rfl, rfl, rfl, trivial⟩ ?_
    refine vc_seq ?_
    refine vc_block ?_
    refine vc_seq ?_
    refine vc_region ?_
    refine vc_y rfl rfl ((by first | exact y_ia0 (k := j) rfl rfl Try.underlying24 Try.sizeOf33 rfl (by omega) | exact y_ia (k := j) rfl rfl Try.underlying24 Try.sizeOf33 rfl (by omega))) ?_
    refine vc_y rfl rfl ((by first | exact y_ldca (tvL (A.getD j tv0)) rfl Try.isAgg33 Try.sizeOf33 rfl (fun i v hi => st.chg.cell (toks_cell hta (by omega) i v hi) (by simp)) | exact y_lda (vs := [_, _, _, _]) st 0 rfl Try.isAgg33 Try.sizeOf33 rfl rfl | exact y_lda (vs := [_, _, _, _]) st 1 rfl Try.isAgg33 Try.sizeOf33 rfl rfl | exact y_lda (vs := [_, _, _, _]) st 2 rfl Try.isAgg33 Try.sizeOf33 rfl rfl | exact y_lda (vs := [_, _, _, _]) st 3 rfl Try.isAgg33 Try.sizeOf33 rfl rfl | exact y_lda (vs := [_, _, _, _]) st 4 rfl Try.isAgg33 Try.sizeOf33 rfl rfl | exact y_lda (vs := [_, _, _, _]) st 5 rfl Try.isAgg33 Try.sizeOf33 rfl rfl)) ?_
    refine vc_e (e_al (l := [_, _, _, _]) st rfl rfl Try.zeroValue33 rfl ?_)
    intro b6 w hb6 st
    first
    | refine vc_e (e_sts (vs := [_, _, _, _]) st 0 rfl rfl rfl rfl rfl Try.sizeOf33 rfl rfl (by first | (right; assumption) | (left; simp)) ?_)
    | refine vc_e (e_sts (vs := [_, _, _, _]) st 1 rfl rfl rfl rfl rfl Try.sizeOf33 rfl rfl (by first | (right; assumption) | (left; simp)) ?_)
    | refine vc_e (e_sts (vs := [_, _, _, _]) st 2 rfl rfl rfl rfl rfl Try.sizeOf33 rfl rfl (by first | (right; assumption) | (left; simp)) ?_)
    | refine vc_e (e_sts (vs := [_, _, _, _]) st 3 rfl rfl rfl rfl rfl Try.sizeOf33 rfl rfl (by first | (right; assumption) | (left; simp)) ?_)
    | refine vc_e (e_sts (vs := [_, _, _, _]) st 4 rfl rfl rfl rfl rfl Try.sizeOf33 rfl rfl (by first | (right; assumption) | (left; simp)) ?_)
    | refine vc_e (e_sts (vs := [_, _, _, _]) st 5 rfl rfl rfl rfl rfl Try.sizeOf33 rfl rfl (by first | (right; assumption) | (left; simp)) ?_)
    intro w st; dsimp only [setNth, wr] at st
    refine vc_end ?_
    refine vq_then ?_
    refine vc_keep [(0, _), (4, _), (6, _), (14, _), (15, _), (16, _)] ⟨rfl, rfl, rfl, rfl, rfl, rfl, trivial⟩ ?_
    refine vc_seq ?_
    refine vc_seq ?_
    refine vc_region ?_
    refine vc_y rfl rfl ((by first | exact y_lda (vs := tvL (A.getD j tv0)) st 0 rfl Try.isAgg33 Try.sizeOf33 rfl rfl | exact y_lda (vs := [_, _, _, _]) st 0 rfl Try.isAgg33 Try.sizeOf33 rfl rfl | exact y_lda (vs := [_, _, _, _]) st 1 rfl Try.isAgg33 Try.sizeOf33 rfl rfl | exact y_lda (vs := [_, _, _, _]) st 2 rfl Try.isAgg33 Try.sizeOf33 rfl rfl | exact y_lda (vs := [_, _, _, _]) st 3 rfl Try.isAgg33 Try.sizeOf33 rfl rfl | exact y_lda (vs := [_, _, _, _]) st 4 rfl Try.isAgg33 Try.sizeOf33 rfl rfl | exact y_lda (vs := [_, _, _, _]) st 5 rfl Try.isAgg33 Try.sizeOf33 rfl rfl)) ?_
    refine vc_e (e_call [_] rfl rfl Try.call40 rfl (right_any (A.getD j tv0) _ (by omega)) ?_)
    rintro _ w ⟨rfl, cw⟩
    replace st := st.call0 cw
    refine vc_y rfl rfl (y_not rfl) ?_
    refine vc_end ?_
    refine vq_then ?_
    refine vc_keep [(0, _), (4, _), (6, _), (14, _), (15, _), (16, _), (22, _)] ⟨rfl, rfl, rfl, rfl, rfl, rfl, rfl, trivial⟩ ?_
    refine vc_ifs rfl ?_ ?_
    · intro hc22
      try simp only [decide_eq_true_eq, decide_eq_false_iff_not, Bool.not_eq_true', Bool.not_eq_false', Bool.not_eq_true, Bool.not_eq_false, Int.not_lt, Int.not_le, Nat.not_lt, Nat.not_le, Bool.not_true, Bool.not_false, Bool.true_eq_false, Bool.false_eq_true] at hc22
      refine vc_seq ?_
      refine vc_region ?_
      refine vc_y rfl rfl (y_as rfl) ?_
      refine vc_y rfl rfl (y_as rfl) ?_
      refine vc_end ?_
      refine vq_then ?_
      refine vc_keep [(2, _), (3, _)] ⟨rfl, rfl, trivial⟩ ?_
      refine vc_ret ?_
      refine vq_then_ret ?_
      refine vq_block_ret ?_
      refine vq_then_ret ?_
      refine vq_then_ret ?_
      refine vq_block_ret ?_
      refine vq_then_ret ?_
      refine vq_ret2 st (.inl rfl) Try.results28 (.tmp rfl) (.tmp rfl) ?_
      refine ⟨_, rfl, ?_⟩
      refine ⟨?_, st.chg⟩
      rw [show prtRes A = ([], 2) by unfold prtRes; rw [if_pos (all_not (j := j) (by omega) (by simpa using hc22))]]
      rfl
    · intro hc22
      try simp only [decide_eq_true_eq, decide_eq_false_iff_not, Bool.not_eq_true', Bool.not_eq_false', Bool.not_eq_true, Bool.not_eq_false, Int.not_lt, Int.not_le, Nat.not_lt, Nat.not_le, Bool.not_true, Bool.not_false, Bool.true_eq_false, Bool.false_eq_true] at hc22
      refine vc_code_skip ?_
      refine vq_then ?_
      refine vc_keep [(0, _), (4, _), (6, _), (14, _), (15, _), (16, _)] ⟨rfl, rfl, rfl, rfl, rfl, rfl, trivial⟩ ?_
      refine vc_region ?_
      refine vc_y rfl rfl (y_mv rfl) ?_
      refine vc_y rfl rfl ((by first | exact y_faz (k := 1) rfl Try.underlying33 rfl rfl Try.sizeOf9 rfl | exact y_fa (k := 1) rfl Try.underlying33 rfl rfl Try.sizeOf9 rfl)) ?_
      refine vc_y rfl rfl ((by first | exact y_ld st 0 rfl Try.isAgg9 rfl rfl | exact y_ld st 1 rfl Try.isAgg9 rfl rfl | exact y_ld st 2 rfl Try.isAgg9 rfl rfl | exact y_ld st 3 rfl Try.isAgg9 rfl rfl | exact y_ld st 4 rfl Try.isAgg9 rfl rfl | exact y_ld st 5 rfl Try.isAgg9 rfl rfl)) ?_
      refine vc_y rfl rfl (y_lens rfl Try.underlying9) ?_
      refine vc_y rfl rfl (y_add rfl rfl rfl (by omega) (by omega)) ?_
      refine vc_y rfl rfl (y_as rfl) ?_
      refine vc_end ?_
      refine vq_block ?_
      refine vq_then ?_
      refine vc_keep [(0, _), (4, _), (14, _), (15, _), (16, _)] ⟨rfl, rfl, rfl, rfl, rfl, trivial⟩ ?_
      refine vc_region ?_
      refine vc_y rfl rfl (y_add rfl rfl rfl (by omega) (by omega)) ?_
      refine vc_y rfl rfl (y_mv rfl) ?_
      refine vc_end ?_
      refine vq_again (j + 1)  ⟨rfl, int_congr (by rw [hstp]; omega), rfl, rfl, int_congr (by omega), trivial⟩ (st.drop (by repeat (first | exact List.Sublist.slnil | apply List.Sublist.cons_cons | apply List.Sublist.cons))) ?_ ?_
      · exact ⟨by omega, all_take (by omega) hall (by simpa using hc22)⟩
      · omega
  · intro hc17
    try simp only [decide_eq_true_eq, decide_eq_false_iff_not, Bool.not_eq_true', Bool.not_eq_false', Bool.not_eq_true, Bool.not_eq_false, Int.not_lt, Int.not_le, Nat.not_lt, Nat.not_le, Bool.not_true, Bool.not_false, Bool.true_eq_false, Bool.false_eq_true] at hc17
    obtain rfl : j = A.length := by omega
    rw [List.take_length] at hall
    refine vc_exit ?_
    refine vq_then_exit ?_
    refine vq_then_exit ?_
    refine vq_block_exit ?_
    refine vq_then ?_
    refine vc_keep [(0, _), (4, _)] ⟨rfl, rfl, trivial⟩ ?_
    refine vc_seq ?_
    refine vc_seq ?_
    refine vc_region ?_
    refine vc_y rfl rfl (y_mv rfl) ?_
    refine vc_y rfl rfl (y_gtr rfl rfl) ?_
    refine vc_end ?_
    refine vq_then ?_
    refine vc_keep [(0, _), (30, _)] ⟨rfl, rfl, trivial⟩ ?_
    refine vc_ifs rfl ?_ ?_
    · intro hc30
      try simp only [decide_eq_true_eq, decide_eq_false_iff_not, Bool.not_eq_true', Bool.not_eq_false', Bool.not_eq_true, Bool.not_eq_false, Int.not_lt, Int.not_le, Nat.not_lt, Nat.not_le, Bool.not_true, Bool.not_false, Bool.true_eq_false, Bool.false_eq_true] at hc30
      refine vc_seq ?_
      refine vc_region ?_
      refine vc_y rfl rfl (y_as rfl) ?_
      refine vc_y rfl rfl (y_as rfl) ?_
      refine vc_end ?_
      refine vq_then ?_
      refine vc_keep [(2, _), (3, _)] ⟨rfl, rfl, trivial⟩ ?_
      refine vc_ret ?_
      refine vq_then_ret ?_
      refine vq_ret2 st (.inl rfl) Try.results28 (.tmp rfl) (.tmp rfl) ?_
      refine ⟨_, rfl, ?_⟩
      refine ⟨?_, st.chg⟩
      rw [show prtRes A = ([], 4) by unfold prtRes; rw [if_neg (by rw [hall]; simp), if_pos (by rw [List.take_length] at hc30; omega)]]
      rfl
    · intro hc30
      try simp only [decide_eq_true_eq, decide_eq_false_iff_not, Bool.not_eq_true', Bool.not_eq_false', Bool.not_eq_true, Bool.not_eq_false, Int.not_lt, Int.not_le, Nat.not_lt, Nat.not_le, Bool.not_true, Bool.not_false, Bool.true_eq_false, Bool.false_eq_true] at hc30
      refine vc_code_skip ?_
      refine vq_then ?_
      refine vc_keep [(0, _)] ⟨rfl, trivial⟩ ?_
      refine vc_seq ?_
      refine vc_region ?_
      refine vc_y rfl rfl (y_mv rfl) ?_
      refine vc_y rfl rfl (y_lensl rfl Try.underlying24) ?_
      refine vc_e (e_mk0 st rfl rfl rfl rfl Try.underlying60 Try.info9 rfl rfl (by show _ * 1 ≤ _; omega) (by show 16 * _ ≤ _; omega) (by unfold maxLen; omega) ?_)
      intro b33 w hb33 st
      refine vc_y rfl rfl (y_as rfl) ?_
      refine vc_end ?_
      refine vq_then ?_
      refine vc_keep [(0, _), (7, _)] ⟨rfl, rfl, trivial⟩ ?_
      refine vc_seq ?_
      refine vc_seq ?_
      refine vc_region ?_
      refine vc_y rfl rfl (y_mv rfl) ?_
      refine vc_y rfl rfl (y_lensl rfl Try.underlying24) ?_
      refine vc_y rfl rfl (y_mv rfl) ?_
      refine vc_end ?_
      refine vq_then ?_
      refine vc_keep [(7, _), (34, _), (35, _), (36, _)] ⟨rfl, rfl, rfl, rfl, trivial⟩ ?_
      refine vc_block ?_
      refine vc_loop (w0 := _) (M := _) (fun (x : Nat × Option Addr × Nat) => [(7, .slice x.2.1 x.1 x.2.2), (34, .slice oa A.length cap), (35, .int .i64 (A.length : Int)), (36, .int .i64 (x.1 : Int))]) (fun x => [.own (.slice x.2.1 x.1 x.2.2) 9 1 x.1 (strsL (txts (A.take x.1)))]) (fun x _ => x.1 ≤ A.length) (fun x => A.length - x.1) (0, some ⟨b33, 0, none⟩, A.length) ⟨rfl, rfl, rfl, rfl, trivial⟩ st (by simp) ?_
      rintro ⟨j, oj, cj⟩ w hj st
      dsimp only at *
      refine vc_seq ?_
      refine vc_region ?_
      refine vc_y rfl rfl (y_lss rfl rfl) ?_
      refine vc_end ?_
      refine vq_then ?_
      refine vc_keep [(7, _), (34, _), (35, _), (36, _), (37, _)] ⟨rfl, rfl, rfl, rfl, rfl, trivial⟩ ?_
      refine vc_seq ?_
      refine vc_ifs rfl ?_ ?_
      · intro hc37
        try simp only [decide_eq_true_eq, decide_eq_false_iff_not, Bool.not_eq_true', Bool.not_eq_false', Bool.not_eq_true, Bool.not_eq_false, Int.not_lt, Int.not_le, Nat.not_lt, Nat.not_le, Bool.not_true, Bool.not_false, Bool.true_eq_false, Bool.false_eq_true] at hc37
        obtain ⟨ga, fa, rfl, hta⟩ := hA.resolve_left (by intro h; have := congrArg List.length h; simp only [List.length_nil] at this; omega)
        have htx := txts_take (A := A) (j := j) (by omega)
        refine vc_code_skip ?_
        refine vq_then ?_
        refine vc_keep [(7, _), (34, _), (35, _), (36, _)] ⟨rfl, rfl, rfl, rfl, trivial⟩ ?_
        refine vc_seq ?_
        refine vc_block ?_
        refine vc_seq ?_
        refine vc_region ?_
        refine vc_y rfl rfl ((by first | exact y_ia0 (k := j) rfl rfl Try.underlying24 Try.sizeOf33 rfl (by omega) | exact y_ia (k := j) rfl rfl Try.underlying24 Try.sizeOf33 rfl (by omega))) ?_
        refine vc_y rfl rfl ((by first | exact y_ldca (tvL (A.getD j tv0)) rfl Try.isAgg33 Try.sizeOf33 rfl (fun i v hi => st.chg.cell (toks_cell hta (by omega) i v hi) (by simp)) | exact y_lda (vs := [_, _, _, _]) st 0 rfl Try.isAgg33 Try.sizeOf33 rfl rfl | exact y_lda (vs := [_, _, _, _]) st 1 rfl Try.isAgg33 Try.sizeOf33 rfl rfl | exact y_lda (vs := [_, _, _, _]) st 2 rfl Try.isAgg33 Try.sizeOf33 rfl rfl | exact y_lda (vs := [_, _, _, _]) st 3 rfl Try.isAgg33 Try.sizeOf33 rfl rfl | exact y_lda (vs := [_, _, _, _]) st 4 rfl Try.isAgg33 Try.sizeOf33 rfl rfl | exact y_lda (vs := [_, _, _, _]) st 5 rfl Try.isAgg33 Try.sizeOf33 rfl rfl)) ?_
        refine vc_e (e_al (l := [_, _, _, _]) st rfl rfl Try.zeroValue33 rfl ?_)
        intro b9 w hb9 st
        first
        | refine vc_e (e_sts (vs := [_, _, _, _]) st 0 rfl rfl rfl rfl rfl Try.sizeOf33 rfl rfl (by first | (right; assumption) | (left; simp)) ?_)
        | refine vc_e (e_sts (vs := [_, _, _, _]) st 1 rfl rfl rfl rfl rfl Try.sizeOf33 rfl rfl (by first | (right; assumption) | (left; simp)) ?_)
        | refine vc_e (e_sts (vs := [_, _, _, _]) st 2 rfl rfl rfl rfl rfl Try.sizeOf33 rfl rfl (by first | (right; assumption) | (left; simp)) ?_)
        | refine vc_e (e_sts (vs := [_, _, _, _]) st 3 rfl rfl rfl rfl rfl Try.sizeOf33 rfl rfl (by first | (right; assumption) | (left; simp)) ?_)
        | refine vc_e (e_sts (vs := [_, _, _, _]) st 4 rfl rfl rfl rfl rfl Try.sizeOf33 rfl rfl (by first | (right; assumption) | (left; simp)) ?_)
        | refine vc_e (e_sts (vs := [_, _, _, _]) st 5 rfl rfl rfl rfl rfl Try.sizeOf33 rfl rfl (by first | (right; assumption) | (left; simp)) ?_)
        intro w st; dsimp only [setNth, wr] at st
        refine vc_end ?_
        refine vq_then ?_
        refine vc_keep [(7, _), (9, _), (34, _), (35, _), (36, _)] ⟨rfl, rfl, rfl, rfl, rfl, trivial⟩ ?_
        refine vc_region ?_
        refine vc_y rfl rfl (y_mv rfl) ?_
        refine vc_y rfl rfl ((by first | exact y_faz (k := 1) rfl Try.underlying33 rfl rfl Try.sizeOf9 rfl | exact y_fa (k := 1) rfl Try.underlying33 rfl rfl Try.sizeOf9 rfl)) ?_
        refine vc_y rfl rfl ((by first | exact y_ld st 0 rfl Try.isAgg9 rfl rfl | exact y_ld st 1 rfl Try.isAgg9 rfl rfl | exact y_ld st 2 rfl Try.isAgg9 rfl rfl | exact y_ld st 3 rfl Try.isAgg9 rfl rfl | exact y_ld st 4 rfl Try.isAgg9 rfl rfl | exact y_ld st 5 rfl Try.isAgg9 rfl rfl)) ?_
        refine vc_e (e_bs1 (l := [_]) st rfl rfl rfl rfl Try.underlying60 Try.sizeOf9 rfl rfl rfl Try.zeroValue9 ?_)
        intro b43 w hb43 st
        refine vc_e (e_app (bytes := 16) st 2 0 rfl rfl rfl rfl rfl rfl Try.underlying60 Try.info9 rfl rfl rfl rfl rfl (by simp) rfl rfl (by unfold maxLen; omega) (by omega) ?_)
        intro oa44 cap44 w st; dsimp only [setNth] at st
        refine vc_y rfl rfl (y_as rfl) ?_
        refine vc_end ?_
        refine vq_block ?_
        refine vq_then ?_
        refine vc_keep [(7, _), (34, _), (35, _), (36, _)] ⟨rfl, rfl, rfl, rfl, trivial⟩ ?_
        refine vc_region ?_
        refine vc_y rfl rfl (y_add rfl rfl rfl (by omega) (by omega)) ?_
        refine vc_y rfl rfl (y_mv rfl) ?_
        refine vc_end ?_
        refine vq_again (j + 1, oa44, cap44) ⟨rfl, rfl, rfl, rfl, trivial⟩ ?_ (by dsimp only; omega) (by dsimp only; omega)
        dsimp only
        rw [htx]
        simp only [strsL, List.map_append, List.map_cons, List.map_nil]
        exact st.drop (by repeat (first | exact List.Sublist.slnil | apply List.Sublist.cons_cons | apply List.Sublist.cons))
      · intro hc37
        try simp only [decide_eq_true_eq, decide_eq_false_iff_not, Bool.not_eq_true', Bool.not_eq_false', Bool.not_eq_true, Bool.not_eq_false, Int.not_lt, Int.not_le, Nat.not_lt, Nat.not_le, Bool.not_true, Bool.not_false, Bool.true_eq_false, Bool.false_eq_true] at hc37
        obtain rfl : j = A.length := by omega
        rw [List.take_length] at st
        have hjl := joinA_len A
        have htl : (txts A).length = A.length := by simp [txts]
        refine vc_exit ?_
        refine vq_then_exit ?_
        refine vq_then_exit ?_
        refine vq_block_exit ?_
        refine vq_then ?_
        refine vc_keep [(7, _)] ⟨rfl, trivial⟩ ?_
        refine vc_seq ?_
        refine vc_region ?_
        refine vc_y rfl rfl (y_mv rfl) ?_
        refine vc_e (e_call [_, _] rfl rfl Try.call41 rfl (by have h := joinS_any (txts A) oj cj _ _ (by rw [htl]; exact st.res (i := 0) rfl) (by omega) (by omega); rw [htl] at h; exact h) ?_)
        rintro _ w ⟨rfl, cw⟩
        replace st := st.call0 cw
        refine vc_y rfl rfl (y_as rfl) ?_
        refine vc_y rfl rfl (y_as rfl) ?_
        refine vc_end ?_
        refine vq_then ?_
        refine vc_keep [(2, _), (3, _)] ⟨rfl, rfl, trivial⟩ ?_
        refine vc_ret ?_
        refine vq_ret2 st (.inl rfl) Try.results28 (.tmp rfl) (.tmp rfl) ?_
        refine ⟨_, rfl, ?_⟩
        refine ⟨?_, st.chg⟩
        rw [show prtRes A = (joinB (txts A), 0) by unfold prtRes; rw [if_neg (by rw [hall]; simp), if_neg (by rw [List.take_length] at hc30; omega)]]
        rfl

set_option maxHeartbeats 1000000 in
theorem rright_any (x : TV) (w : World) (hx : x.t.length ≤ 2000000) : Ret Try.prog 42 [.agg (tvL x).toArray] w fun v w' => v = .bool (rgtT x) ∧ Chg [] w w' := by
  refine ret_of [_] Try.func42 rfl Try.ntmps42 rfl ?_
  have st := St.init w []
  refine vc_seq ?_
  refine vc_region ?_
  refine vc_e (e_bx (l := [_, _, _, _]) st rfl rfl rfl rfl ?_)
  intro b1 w hb1 st
  refine vc_y rfl rfl (y_as rfl) ?_
  refine vc_end ?_
  refine vq_then ?_
  refine vc_keep [(1, _)] ⟨rfl, trivial⟩ ?_
  refine vc_seq ?_
  refine vc_seq ?_
  refine vc_region ?_
  refine vc_y rfl rfl (y_fa0 rfl Try.underlying33 rfl rfl Try.sizeOf31 rfl) ?_
  refine vc_y rfl rfl ((by first | exact y_ld st 0 rfl Try.isAgg31 rfl rfl | exact y_ld st 1 rfl Try.isAgg31 rfl rfl | exact y_ld st 2 rfl Try.isAgg31 rfl rfl)) ?_
  refine vc_end ?_
  refine vq_then ?_
  refine vc_keep [(1, _), (6, _)] ⟨rfl, rfl, trivial⟩ ?_
  refine vc_block ?_
  refine vc_seq ?_
  refine vc_region ?_
  refine vc_y rfl rfl (y_eqi rfl rfl) ?_
  refine vc_y rfl rfl (y_as rfl) ?_
  refine vc_end ?_
  refine vq_then ?_
  refine vc_keep [(1, _), (6, _), (7, _)] ⟨rfl, rfl, rfl, trivial⟩ ?_
  refine vc_ifs rfl ?_ ?_
  · intro hc7
    try simp only [decide_eq_true_eq, decide_eq_false_iff_not, Bool.not_eq_true', Bool.not_eq_false', Bool.not_eq_true, Bool.not_eq_false, Int.not_lt, Int.not_le, Nat.not_lt, Nat.not_le, Bool.not_true, Bool.not_false, Bool.true_eq_false, Bool.false_eq_true] at hc7
    refine vc_seq ?_
    refine vc_region ?_
    refine vc_y rfl rfl ((by first | exact y_faz (k := 1) rfl Try.underlying33 rfl rfl Try.sizeOf9 rfl | exact y_fa (k := 1) rfl Try.underlying33 rfl rfl Try.sizeOf9 rfl)) ?_
    refine vc_y rfl rfl ((by first | exact y_ld st 0 rfl Try.isAgg9 rfl rfl | exact y_ld st 1 rfl Try.isAgg9 rfl rfl | exact y_ld st 2 rfl Try.isAgg9 rfl rfl)) ?_
    refine vc_e (e_call [_] rfl rfl Try.call15 rfl (rname_any _ _) ?_)
    rintro _ _ ⟨rfl, rfl⟩
    refine vc_e (e_mvb rfl rfl rfl ?_ ?_)
    · intro hg12
      try simp only [decide_eq_true_eq, decide_eq_false_iff_not, Bool.not_eq_true', Bool.not_eq_false', Bool.not_eq_true, Bool.not_eq_false, Int.not_lt, Int.not_le, Nat.not_lt, Nat.not_le, Bool.not_true, Bool.not_false, Bool.true_eq_false, Bool.false_eq_true] at hg12
      refine vc_y rfl rfl ((by first | exact y_faz (k := 2) rfl Try.underlying33 rfl rfl Try.sizeOf2 rfl | exact y_fa (k := 2) rfl Try.underlying33 rfl rfl Try.sizeOf2 rfl)) ?_
      refine vc_y rfl rfl ((by first | exact y_ld st 0 rfl Try.isAgg2 rfl rfl | exact y_ld st 1 rfl Try.isAgg2 rfl rfl | exact y_ld st 2 rfl Try.isAgg2 rfl rfl)) ?_
      refine vc_y rfl rfl (y_eqi rfl rfl) ?_
      refine vc_y rfl rfl (y_pickt rfl rfl) ?_
      refine vc_y rfl rfl (y_as rfl) ?_
      refine vc_end ?_
      refine vq_then ?_
      refine vc_keep [(2, _)] ⟨rfl, trivial⟩ ?_
      refine vc_ret ?_
      refine vq_block_ret ?_
      refine vq_then_ret ?_
      refine vq_ret1 st (.inl rfl) Try.results42 (.tmp rfl) ?_
      refine ⟨_, rfl, ?_⟩
      refine ⟨?_, st.chg⟩
      show Value.bool _ = Value.bool _
      congr 1
      unfold rgtT
      rw [rgt_doc]
      unfold docRight
      first | (simp_all; done) | (rw [numV_R]; simp_all; done) | skip
    · intro hg12
      try simp only [decide_eq_true_eq, decide_eq_false_iff_not, Bool.not_eq_true', Bool.not_eq_false', Bool.not_eq_true, Bool.not_eq_false, Int.not_lt, Int.not_le, Nat.not_lt, Nat.not_le, Bool.not_true, Bool.not_false, Bool.true_eq_false, Bool.false_eq_true] at hg12
      refine vc_e (e_skip rfl rfl ?_)
      refine vc_e (e_skip rfl rfl ?_)
      refine vc_e (e_skip rfl rfl ?_)
      refine vc_y rfl rfl (y_pickf rfl rfl) ?_
      refine vc_y rfl rfl (y_as rfl) ?_
      refine vc_end ?_
      refine vq_then ?_
      refine vc_keep [(2, _)] ⟨rfl, trivial⟩ ?_
      refine vc_ret ?_
      refine vq_block_ret ?_
      refine vq_then_ret ?_
      refine vq_ret1 st (.inl rfl) Try.results42 (.tmp rfl) ?_
      refine ⟨_, rfl, ?_⟩
      refine ⟨?_, st.chg⟩
      show Value.bool _ = Value.bool _
      congr 1
      unfold rgtT
      rw [rgt_doc]
      unfold docRight
      first | (simp_all; done) | (rw [numV_R]; simp_all; done) | skip
  · intro hc7
    try simp only [decide_eq_true_eq, decide_eq_false_iff_not, Bool.not_eq_true', Bool.not_eq_false', Bool.not_eq_true, Bool.not_eq_false, Int.not_lt, Int.not_le, Nat.not_lt, Nat.not_le, Bool.not_true, Bool.not_false, Bool.true_eq_false, Bool.false_eq_true] at hc7
    refine vc_seq ?_
    refine vc_region ?_
    refine vc_y rfl rfl (y_eqi rfl rfl) ?_
    refine vc_y rfl rfl (y_as rfl) ?_
    refine vc_end ?_
    refine vq_then ?_
    refine vc_keep [(1, _), (6, _), (17, _)] ⟨rfl, rfl, rfl, trivial⟩ ?_
    refine vc_ifs rfl ?_ ?_
    · intro hc17
      try simp only [decide_eq_true_eq, decide_eq_false_iff_not, Bool.not_eq_true', Bool.not_eq_false', Bool.not_eq_true, Bool.not_eq_false, Int.not_lt, Int.not_le, Nat.not_lt, Nat.not_le, Bool.not_true, Bool.not_false, Bool.true_eq_false, Bool.false_eq_true] at hc17
      refine vc_seq ?_
      refine vc_region ?_
      refine vc_y rfl rfl ((by first | exact y_faz (k := 1) rfl Try.underlying33 rfl rfl Try.sizeOf9 rfl | exact y_fa (k := 1) rfl Try.underlying33 rfl rfl Try.sizeOf9 rfl)) ?_
      refine vc_y rfl rfl ((by first | exact y_ld st 0 rfl Try.isAgg9 rfl rfl | exact y_ld st 1 rfl Try.isAgg9 rfl rfl | exact y_ld st 2 rfl Try.isAgg9 rfl rfl)) ?_
      refine vc_e (e_call [_] rfl rfl Try.call17 rfl (rword_any _ _) ?_)
      rintro _ _ ⟨rfl, rfl⟩
      refine vc_e (e_mvb rfl rfl rfl ?_ ?_)
      · intro hg22
        try simp only [decide_eq_true_eq, decide_eq_false_iff_not, Bool.not_eq_true', Bool.not_eq_false', Bool.not_eq_true, Bool.not_eq_false, Int.not_lt, Int.not_le, Nat.not_lt, Nat.not_le, Bool.not_true, Bool.not_false, Bool.true_eq_false, Bool.false_eq_true] at hg22
        refine vc_y rfl rfl ((by first | exact y_faz (k := 2) rfl Try.underlying33 rfl rfl Try.sizeOf2 rfl | exact y_fa (k := 2) rfl Try.underlying33 rfl rfl Try.sizeOf2 rfl)) ?_
        refine vc_y rfl rfl ((by first | exact y_ld st 0 rfl Try.isAgg2 rfl rfl | exact y_ld st 1 rfl Try.isAgg2 rfl rfl | exact y_ld st 2 rfl Try.isAgg2 rfl rfl)) ?_
        refine vc_y rfl rfl (y_eqi rfl rfl) ?_
        refine vc_y rfl rfl (y_pickt rfl rfl) ?_
        refine vc_y rfl rfl (y_as rfl) ?_
        refine vc_end ?_
        refine vq_then ?_
        refine vc_keep [(2, _)] ⟨rfl, trivial⟩ ?_
        refine vc_ret ?_
        refine vq_block_ret ?_
        refine vq_then_ret ?_
        refine vq_ret1 st (.inl rfl) Try.results42 (.tmp rfl) ?_
        refine ⟨_, rfl, ?_⟩
        refine ⟨?_, st.chg⟩
        show Value.bool _ = Value.bool _
        congr 1
        unfold rgtT
        rw [rgt_doc]
        unfold docRight
        first | (simp_all; done) | (rw [numV_R]; simp_all; done) | skip
      · intro hg22
        try simp only [decide_eq_true_eq, decide_eq_false_iff_not, Bool.not_eq_true', Bool.not_eq_false', Bool.not_eq_true, Bool.not_eq_false, Int.not_lt, Int.not_le, Nat.not_lt, Nat.not_le, Bool.not_true, Bool.not_false, Bool.true_eq_false, Bool.false_eq_true] at hg22
        refine vc_e (e_skip rfl rfl ?_)
        refine vc_e (e_skip rfl rfl ?_)
        refine vc_e (e_skip rfl rfl ?_)
        refine vc_y rfl rfl (y_pickf rfl rfl) ?_
        refine vc_y rfl rfl (y_as rfl) ?_
        refine vc_end ?_
        refine vq_then ?_
        refine vc_keep [(2, _)] ⟨rfl, trivial⟩ ?_
        refine vc_ret ?_
        refine vq_block_ret ?_
        refine vq_then_ret ?_
        refine vq_ret1 st (.inl rfl) Try.results42 (.tmp rfl) ?_
        refine ⟨_, rfl, ?_⟩
        refine ⟨?_, st.chg⟩
        show Value.bool _ = Value.bool _
        congr 1
        unfold rgtT
        rw [rgt_doc]
        unfold docRight
        first | (simp_all; done) | (rw [numV_R]; simp_all; done) | skip
    · intro hc17
      try simp only [decide_eq_true_eq, decide_eq_false_iff_not, Bool.not_eq_true', Bool.not_eq_false', Bool.not_eq_true, Bool.not_eq_false, Int.not_lt, Int.not_le, Nat.not_lt, Nat.not_le, Bool.not_true, Bool.not_false, Bool.true_eq_false, Bool.false_eq_true] at hc17
      refine vc_seq ?_
      refine vc_region ?_
      refine vc_y rfl rfl (y_eqi rfl rfl) ?_
      refine vc_y rfl rfl (y_as rfl) ?_
      refine vc_end ?_
      refine vq_then ?_
      refine vc_keep [(1, _), (6, _), (27, _)] ⟨rfl, rfl, rfl, trivial⟩ ?_
      refine vc_ifs rfl ?_ ?_
      · intro hc27
        try simp only [decide_eq_true_eq, decide_eq_false_iff_not, Bool.not_eq_true', Bool.not_eq_false', Bool.not_eq_true, Bool.not_eq_false, Int.not_lt, Int.not_le, Nat.not_lt, Nat.not_le, Bool.not_true, Bool.not_false, Bool.true_eq_false, Bool.false_eq_true] at hc27
        refine vc_seq ?_
        refine vc_region ?_
        refine vc_y rfl rfl ((by first | exact y_faz (k := 1) rfl Try.underlying33 rfl rfl Try.sizeOf9 rfl | exact y_fa (k := 1) rfl Try.underlying33 rfl rfl Try.sizeOf9 rfl)) ?_
        refine vc_y rfl rfl ((by first | exact y_ld st 0 rfl Try.isAgg9 rfl rfl | exact y_ld st 1 rfl Try.isAgg9 rfl rfl | exact y_ld st 2 rfl Try.isAgg9 rfl rfl)) ?_
        refine vc_e (e_call [_] rfl rfl Try.call49 rfl (rnumber_any _ _ (by omega)) ?_)
        rintro _ _ ⟨rfl, rfl⟩
        refine vc_y rfl rfl (y_mv rfl) ?_
        refine vc_y rfl rfl (y_ext rfl rfl) ?_
        refine vc_y rfl rfl (y_ext rfl rfl) ?_
        refine vc_y rfl rfl (y_as rfl) ?_
        refine vc_y rfl rfl (y_as rfl) ?_
        refine vc_end ?_
        refine vq_then ?_
        refine vc_keep [(1, _), (3, _), (4, _)] ⟨rfl, rfl, rfl, trivial⟩ ?_
        refine vc_seq ?_
        refine vc_region ?_
        refine vc_y rfl rfl (y_mv rfl) ?_
        refine vc_e (e_mvb rfl rfl rfl ?_ ?_)
        · intro hg36
          try simp only [decide_eq_true_eq, decide_eq_false_iff_not, Bool.not_eq_true', Bool.not_eq_false', Bool.not_eq_true, Bool.not_eq_false, Int.not_lt, Int.not_le, Nat.not_lt, Nat.not_le, Bool.not_true, Bool.not_false, Bool.true_eq_false, Bool.false_eq_true] at hg36
          refine vc_y rfl rfl (y_mv rfl) ?_
          refine vc_y rfl rfl ((by first | exact y_faz (k := 2) rfl Try.underlying33 rfl rfl Try.sizeOf2 rfl | exact y_fa (k := 2) rfl Try.underlying33 rfl rfl Try.sizeOf2 rfl)) ?_
          refine vc_y rfl rfl ((by first | exact y_ld st 0 rfl Try.isAgg2 rfl rfl | exact y_ld st 1 rfl Try.isAgg2 rfl rfl | exact y_ld st 2 rfl Try.isAgg2 rfl rfl)) ?_
          refine vc_y rfl rfl (y_eqi rfl rfl) ?_
          refine vc_y rfl rfl (y_pickt rfl rfl) ?_
          refine vc_y rfl rfl (y_as rfl) ?_
          refine vc_end ?_
          refine vq_then ?_
          refine vc_keep [(2, _)] ⟨rfl, trivial⟩ ?_
          refine vc_ret ?_
          refine vq_block_ret ?_
          refine vq_then_ret ?_
          refine vq_ret1 st (.inl rfl) Try.results42 (.tmp rfl) ?_
          refine ⟨_, rfl, ?_⟩
          refine ⟨?_, st.chg⟩
          show Value.bool _ = Value.bool _
          congr 1
          unfold rgtT
          rw [rgt_doc]
          unfold docRight
          first | (simp_all; done) | (rw [numV_R]; simp_all; done) | skip
        · intro hg36
          try simp only [decide_eq_true_eq, decide_eq_false_iff_not, Bool.not_eq_true', Bool.not_eq_false', Bool.not_eq_true, Bool.not_eq_false, Int.not_lt, Int.not_le, Nat.not_lt, Nat.not_le, Bool.not_true, Bool.not_false, Bool.true_eq_false, Bool.false_eq_true] at hg36
          refine vc_e (e_skip rfl rfl ?_)
          refine vc_e (e_skip rfl rfl ?_)
          refine vc_e (e_skip rfl rfl ?_)
          refine vc_e (e_skip rfl rfl ?_)
          refine vc_y rfl rfl (y_pickf rfl rfl) ?_
          refine vc_y rfl rfl (y_as rfl) ?_
          refine vc_end ?_
          refine vq_then ?_
          refine vc_keep [(2, _)] ⟨rfl, trivial⟩ ?_
          refine vc_ret ?_
          refine vq_block_ret ?_
          refine vq_then_ret ?_
          refine vq_ret1 st (.inl rfl) Try.results42 (.tmp rfl) ?_
          refine ⟨_, rfl, ?_⟩
          refine ⟨?_, st.chg⟩
          show Value.bool _ = Value.bool _
          congr 1
          unfold rgtT
          rw [rgt_doc]
          unfold docRight
          first | (simp_all; done) | (rw [numV_R]; simp_all; done) | skip
      · intro hc27
        try simp only [decide_eq_true_eq, decide_eq_false_iff_not, Bool.not_eq_true', Bool.not_eq_false', Bool.not_eq_true, Bool.not_eq_false, Int.not_lt, Int.not_le, Nat.not_lt, Nat.not_le, Bool.not_true, Bool.not_false, Bool.true_eq_false, Bool.false_eq_true] at hc27
        refine vc_seq ?_
        refine vc_region ?_
        refine vc_y rfl rfl (y_eqi rfl rfl) ?_
        refine vc_y rfl rfl (y_as rfl) ?_
        refine vc_end ?_
        refine vq_then ?_
        refine vc_keep [(1, _), (42, _)] ⟨rfl, rfl, trivial⟩ ?_
        refine vc_ifs rfl ?_ ?_
        · intro hc42
          try simp only [decide_eq_true_eq, decide_eq_false_iff_not, Bool.not_eq_true', Bool.not_eq_false', Bool.not_eq_true, Bool.not_eq_false, Int.not_lt, Int.not_le, Nat.not_lt, Nat.not_le, Bool.not_true, Bool.not_false, Bool.true_eq_false, Bool.false_eq_true] at hc42
          refine vc_seq ?_
          refine vc_region ?_
          refine vc_y rfl rfl ((by first | exact y_faz (k := 1) rfl Try.underlying33 rfl rfl Try.sizeOf9 rfl | exact y_fa (k := 1) rfl Try.underlying33 rfl rfl Try.sizeOf9 rfl)) ?_
          refine vc_y rfl rfl ((by first | exact y_ld st 0 rfl Try.isAgg9 rfl rfl | exact y_ld st 1 rfl Try.isAgg9 rfl rfl | exact y_ld st 2 rfl Try.isAgg9 rfl rfl)) ?_
          refine vc_e (e_call [_] rfl rfl Try.call19 rfl (rsign_any _ _) ?_)
          rintro _ _ ⟨rfl, rfl⟩
          refine vc_e (e_mvb rfl rfl rfl ?_ ?_)
          · intro hg47
            try simp only [decide_eq_true_eq, decide_eq_false_iff_not, Bool.not_eq_true', Bool.not_eq_false', Bool.not_eq_true, Bool.not_eq_false, Int.not_lt, Int.not_le, Nat.not_lt, Nat.not_le, Bool.not_true, Bool.not_false, Bool.true_eq_false, Bool.false_eq_true] at hg47
            refine vc_y rfl rfl ((by first | exact y_faz (k := 2) rfl Try.underlying33 rfl rfl Try.sizeOf2 rfl | exact y_fa (k := 2) rfl Try.underlying33 rfl rfl Try.sizeOf2 rfl)) ?_
            refine vc_y rfl rfl ((by first | exact y_ld st 0 rfl Try.isAgg2 rfl rfl | exact y_ld st 1 rfl Try.isAgg2 rfl rfl | exact y_ld st 2 rfl Try.isAgg2 rfl rfl)) ?_
            refine vc_y rfl rfl (y_eqi rfl rfl) ?_
            refine vc_y rfl rfl (y_pickt rfl rfl) ?_
            refine vc_y rfl rfl (y_as rfl) ?_
            refine vc_end ?_
            refine vq_then ?_
            refine vc_keep [(2, _)] ⟨rfl, trivial⟩ ?_
            refine vc_ret ?_
            refine vq_block_ret ?_
            refine vq_then_ret ?_
            refine vq_ret1 st (.inl rfl) Try.results42 (.tmp rfl) ?_
            refine ⟨_, rfl, ?_⟩
            refine ⟨?_, st.chg⟩
            show Value.bool _ = Value.bool _
            congr 1
            unfold rgtT
            rw [rgt_doc]
            unfold docRight
            first | (simp_all; done) | (rw [numV_R]; simp_all; done) | skip
          · intro hg47
            try simp only [decide_eq_true_eq, decide_eq_false_iff_not, Bool.not_eq_true', Bool.not_eq_false', Bool.not_eq_true, Bool.not_eq_false, Int.not_lt, Int.not_le, Nat.not_lt, Nat.not_le, Bool.not_true, Bool.not_false, Bool.true_eq_false, Bool.false_eq_true] at hg47
            refine vc_e (e_skip rfl rfl ?_)
            refine vc_e (e_skip rfl rfl ?_)
            refine vc_e (e_skip rfl rfl ?_)
            refine vc_y rfl rfl (y_pickf rfl rfl) ?_
            refine vc_y rfl rfl (y_as rfl) ?_
            refine vc_end ?_
            refine vq_then ?_
            refine vc_keep [(2, _)] ⟨rfl, trivial⟩ ?_
            refine vc_ret ?_
            refine vq_block_ret ?_
            refine vq_then_ret ?_
            refine vq_ret1 st (.inl rfl) Try.results42 (.tmp rfl) ?_
            refine ⟨_, rfl, ?_⟩
            refine ⟨?_, st.chg⟩
            show Value.bool _ = Value.bool _
            congr 1
            unfold rgtT
            rw [rgt_doc]
            unfold docRight
            first | (simp_all; done) | (rw [numV_R]; simp_all; done) | skip
        · intro hc42
          try simp only [decide_eq_true_eq, decide_eq_false_iff_not, Bool.not_eq_true', Bool.not_eq_false', Bool.not_eq_true, Bool.not_eq_false, Int.not_lt, Int.not_le, Nat.not_lt, Nat.not_le, Bool.not_true, Bool.not_false, Bool.true_eq_false, Bool.false_eq_true] at hc42
          refine vc_code_skip ?_
          refine vq_block ?_
          refine vq_then ?_
          refine vc_keep [] trivial ?_
          refine vc_seq ?_
          refine vc_region ?_
          refine vc_y rfl rfl (y_as rfl) ?_
          refine vc_end ?_
          refine vq_then ?_
          refine vc_keep [(2, _)] ⟨rfl, trivial⟩ ?_
          refine vc_ret ?_
          refine vq_ret1 st (.inl rfl) Try.results42 (.tmp rfl) ?_
          refine ⟨_, rfl, ?_⟩
          refine ⟨?_, st.chg⟩
          show Value.bool _ = Value.bool _
          congr 1
          unfold rgtT
          rw [rgt_doc]
          unfold docRight
          first | (simp_all; done) | (rw [numV_R]; simp_all; done) | skip

set_option maxHeartbeats 1000000 in
theorem rprint_any (A : List TV) (oa : Option Addr) (cap : Nat) (w : World) (hA : IsToks w oa A) (hb : bulkT A ≤ 1100000) : Ret Try.prog 29 [.slice oa A.length cap] w fun v w' => v = .tuple [str (prtRes A).1, .int .i64 ((prtRes A).2 : Int)].toArray ∧ Chg [] w w' := by
  refine ret_of [_] Try.func29 rfl Try.ntmps29 rfl ?_
  have st := St.init w []
  have hbl := bulk_len A
  have hsb := sumT_bulk A
  refine vc_seq ?_
  refine vc_region ?_
  refine vc_y rfl rfl (y_as rfl) ?_
  refine vc_y rfl rfl (y_as rfl) ?_
  refine vc_end ?_
  refine vq_then ?_
  refine vc_keep [(0, _)] ⟨rfl, trivial⟩ ?_
  refine vc_seq ?_
  refine vc_seq ?_
  refine vc_region ?_
  refine vc_y rfl rfl (y_as rfl) ?_
  refine vc_end ?_
  refine vq_then ?_
  refine vc_keep [(0, _), (4, _)] ⟨rfl, rfl, trivial⟩ ?_
  refine vc_block ?_
  refine vc_loop (w0 := _) (M := _) (fun (j : Nat) => [(0, .slice oa A.length cap), (4, .int .i64 (j : Int))]) (fun _ => []) (fun j _ => j ≤ A.length ∧ (A.take j).all rgtT = true) (fun j => A.length - j) 0 ⟨rfl, rfl, trivial⟩ st ⟨by omega, by simp⟩ ?_
  rintro j w ⟨hj, hall⟩ st
  refine vc_seq ?_
  refine vc_seq ?_
  refine vc_region ?_
  refine vc_y rfl rfl (y_mv rfl) ?_
  refine vc_y rfl rfl (y_mv rfl) ?_
  refine vc_y rfl rfl (y_lensl rfl Try.underlying24) ?_
  refine vc_y rfl rfl (y_lss rfl rfl) ?_
  refine vc_end ?_
  refine vq_then ?_
  refine vc_keep [(0, _), (4, _), (12, _)] ⟨rfl, rfl, rfl, trivial⟩ ?_
  refine vc_ifs rfl ?_ ?_
  · intro hc12
    try simp only [decide_eq_true_eq, decide_eq_false_iff_not, Bool.not_eq_true', Bool.not_eq_false', Bool.not_eq_true, Bool.not_eq_false, Int.not_lt, Int.not_le, Nat.not_lt, Nat.not_le, Bool.not_true, Bool.not_false, Bool.true_eq_false, Bool.false_eq_true] at hc12
    obtain ⟨ga, fa, rfl, hta⟩ := hA.resolve_left (by intro h; have := congrArg List.length h; simp only [List.length_nil] at this; omega)
    have hbx := bulk_le (getD_mem (A := A) (j := j) (by omega))
    refine vc_code_skip ?_
    refine vq_then ?_
    refine vc_keep [(0, _), (4, _)] ⟨rfl, rfl, trivial⟩ ?_
    refine vc_seq ?_
    refine vc_block ?_
    refine vc_seq ?_
    refine vc_region ?_
    refine vc_y rfl rfl (y_mv rfl) ?_
    refine vc_y rfl rfl (y_mv rfl) ?_
    refine vc_y rfl rfl ((by first | exact y_ia0 (k := j) rfl rfl Try.underlying24 Try.sizeOf33 rfl (by omega) | exact y_ia (k := j) rfl rfl Try.underlying24 Try.sizeOf33 rfl (by omega))) ?_
    refine vc_y rfl rfl ((by first | exact y_ldca (tvL (A.getD j tv0)) rfl Try.isAgg33 Try.sizeOf33 rfl (fun i v hi => st.chg.cell (toks_cell hta (by omega) i v hi) (by simp)) | exact y_lda (vs := [_, _, _, _]) st 0 rfl Try.isAgg33 Try.sizeOf33 rfl rfl | exact y_lda (vs := [_, _, _, _]) st 1 rfl Try.isAgg33 Try.sizeOf33 rfl rfl | exact y_lda (vs := [_, _, _, _]) st 2 rfl Try.isAgg33 Try.sizeOf33 rfl rfl)) ?_
    refine vc_e (e_call [_] rfl rfl Try.call42 rfl (rright_any (A.getD j tv0) _ (by omega)) ?_)
    rintro _ w ⟨rfl, cw⟩
    replace st := st.call0 cw
    refine vc_y rfl rfl (y_not rfl) ?_
    refine vc_end ?_
    refine vq_then ?_
    refine vc_keep [(0, _), (4, _), (20, _)] ⟨rfl, rfl, rfl, trivial⟩ ?_
    refine vc_ifs rfl ?_ ?_
    · intro hc20
      try simp only [decide_eq_true_eq, decide_eq_false_iff_not, Bool.not_eq_true', Bool.not_eq_false', Bool.not_eq_true, Bool.not_eq_false, Int.not_lt, Int.not_le, Nat.not_lt, Nat.not_le, Bool.not_true, Bool.not_false, Bool.true_eq_false, Bool.false_eq_true] at hc20
      refine vc_seq ?_
      refine vc_region ?_
      refine vc_y rfl rfl (y_as rfl) ?_
      refine vc_y rfl rfl (y_as rfl) ?_
      refine vc_end ?_
      refine vq_then ?_
      refine vc_keep [(2, _), (3, _)] ⟨rfl, rfl, trivial⟩ ?_
      refine vc_ret ?_
      refine vq_block_ret ?_
      refine vq_then_ret ?_
      refine vq_then_ret ?_
      refine vq_block_ret ?_
      refine vq_then_ret ?_
      refine vq_ret2 st (.inl rfl) Try.results29 (.tmp rfl) (.tmp rfl) ?_
      refine ⟨_, rfl, ?_⟩
      refine ⟨?_, st.chg⟩
      rw [show prtRes A = ([], 2) by unfold prtRes; rw [if_pos (all_not (j := j) (by omega) (by simpa using hc20))]]
      rfl
    · intro hc20
      try simp only [decide_eq_true_eq, decide_eq_false_iff_not, Bool.not_eq_true', Bool.not_eq_false', Bool.not_eq_true, Bool.not_eq_false, Int.not_lt, Int.not_le, Nat.not_lt, Nat.not_le, Bool.not_true, Bool.not_false, Bool.true_eq_false, Bool.false_eq_true] at hc20
      refine vc_code_skip ?_
      refine vq_block ?_
      refine vq_then ?_
      refine vc_keep [(0, _), (4, _)] ⟨rfl, rfl, trivial⟩ ?_
      refine vc_region ?_
      refine vc_y rfl rfl (y_mv rfl) ?_
      refine vc_y rfl rfl (y_add rfl rfl rfl (by omega) (by omega)) ?_
      refine vc_y rfl rfl (y_as rfl) ?_
      refine vc_end ?_
      refine vq_again (j + 1)  ⟨rfl, rfl, trivial⟩ st ?_ ?_
      · exact ⟨by omega, all_take (by omega) hall (by simpa using hc20)⟩
      · omega
  · intro hc12
    try simp only [decide_eq_true_eq, decide_eq_false_iff_not, Bool.not_eq_true', Bool.not_eq_false', Bool.not_eq_true, Bool.not_eq_false, Int.not_lt, Int.not_le, Nat.not_lt, Nat.not_le, Bool.not_true, Bool.not_false, Bool.true_eq_false, Bool.false_eq_true] at hc12
    obtain rfl : j = A.length := by omega
    rw [List.take_length] at hall
    refine vc_exit ?_
    refine vq_then_exit ?_
    refine vq_then_exit ?_
    refine vq_block_exit ?_
    refine vq_then ?_
    refine vc_keep [(0, _)] ⟨rfl, trivial⟩ ?_
    refine vc_seq ?_
    refine vc_region ?_
    refine vc_y rfl rfl (y_as rfl) ?_
    refine vc_end ?_
    refine vq_then ?_
    refine vc_keep [(0, _), (5, _)] ⟨rfl, rfl, trivial⟩ ?_
    refine vc_seq ?_
    refine vc_seq ?_
    refine vc_region ?_
    refine vc_y rfl rfl (y_as rfl) ?_
    refine vc_end ?_
    refine vq_then ?_
    refine vc_keep [(0, _), (5, _), (6, _)] ⟨rfl, rfl, rfl, trivial⟩ ?_
    refine vc_block ?_
    refine vc_loop (w0 := _) (M := _) (fun (j : Nat) => [(0, .slice oa A.length cap), (5, .int .i64 ((sumT (A.take j) + (j - 1) : Nat) : Int)), (6, .int .i64 (j : Int))]) (fun _ => []) (fun j _ => j ≤ A.length ∧ sumT (A.take j) + (j - 1) ≤ 65536) (fun j => A.length - j) 0 ⟨rfl, rfl, rfl, trivial⟩ st ⟨by omega, by simp [sumT]⟩ ?_
    rintro j w ⟨hj, hs6⟩ st
    refine vc_seq ?_
    refine vc_seq ?_
    refine vc_region ?_
    refine vc_y rfl rfl (y_mv rfl) ?_
    refine vc_y rfl rfl (y_mv rfl) ?_
    refine vc_y rfl rfl (y_lensl rfl Try.underlying24) ?_
    refine vc_y rfl rfl (y_lss rfl rfl) ?_
    refine vc_end ?_
    refine vq_then ?_
    refine vc_keep [(0, _), (5, _), (6, _), (24, _)] ⟨rfl, rfl, rfl, rfl, trivial⟩ ?_
    refine vc_ifs rfl ?_ ?_
    · intro hc24
      try simp only [decide_eq_true_eq, decide_eq_false_iff_not, Bool.not_eq_true', Bool.not_eq_false', Bool.not_eq_true, Bool.not_eq_false, Int.not_lt, Int.not_le, Nat.not_lt, Nat.not_le, Bool.not_true, Bool.not_false, Bool.true_eq_false, Bool.false_eq_true] at hc24
      obtain ⟨ga, fa, rfl, hta⟩ := hA.resolve_left (by intro h; have := congrArg List.length h; simp only [List.length_nil] at this; omega)
      have hbx := bulk_le (getD_mem (A := A) (j := j) (by omega))
      have hstp := sumT_take (A := A) (j := j) (by omega)
      have hst1 := sumT_take_le A (j + 1)
      refine vc_code_skip ?_
      refine vq_then ?_
      refine vc_keep [(0, _), (5, _), (6, _)] ⟨rfl, rfl, rfl, trivial⟩ ?_
      refine vc_seq ?_
      refine vc_block ?_
      refine vc_seq ?_
      refine vc_region ?_
      refine vc_y rfl rfl (y_mv rfl) ?_
      refine vc_y rfl rfl (y_mv rfl) ?_
      refine vc_y rfl rfl (y_mv rfl) ?_
      refine vc_y rfl rfl ((by first | exact y_ia0 (k := j) rfl rfl Try.underlying24 Try.sizeOf33 rfl (by omega) | exact y_ia (k := j) rfl rfl Try.underlying24 Try.sizeOf33 rfl (by omega))) ?_
      refine vc_y rfl rfl ((by first | exact y_faz (k := 1) rfl Try.underlying33 rfl rfl Try.sizeOf9 rfl | exact y_fa (k := 1) rfl Try.underlying33 rfl rfl Try.sizeOf9 rfl)) ?_
      refine vc_y rfl rfl ((by first | exact y_ldc rfl Try.isAgg9 (st.chg.cell (hta j (by omega)).2.1 (by simp)) | exact y_ld st 0 rfl Try.isAgg9 rfl rfl | exact y_ld st 1 rfl Try.isAgg9 rfl rfl | exact y_ld st 2 rfl Try.isAgg9 rfl rfl)) ?_
      refine vc_y rfl rfl (y_lens rfl Try.underlying9) ?_
      refine vc_y rfl rfl (y_add rfl rfl rfl (by omega) (by omega)) ?_
      refine vc_y rfl rfl (y_as rfl) ?_
      refine vc_end ?_
      refine vq_then ?_
      refine vc_keep [(0, _), (5, _), (6, _)] ⟨rfl, rfl, rfl, trivial⟩ ?_
      refine vc_seq ?_
      refine vc_seq ?_
      refine vc_region ?_
      refine vc_y rfl rfl (y_mv rfl) ?_
      refine vc_y rfl rfl (y_gtr rfl rfl) ?_
      refine vc_end ?_
      refine vq_then ?_
      refine vc_keep [(0, _), (5, _), (6, _), (36, _)] ⟨rfl, rfl, rfl, rfl, trivial⟩ ?_
      refine vc_ifs rfl ?_ ?_
      · intro hc36
        try simp only [decide_eq_true_eq, decide_eq_false_iff_not, Bool.not_eq_true', Bool.not_eq_false', Bool.not_eq_true, Bool.not_eq_false, Int.not_lt, Int.not_le, Nat.not_lt, Nat.not_le, Bool.not_true, Bool.not_false, Bool.true_eq_false, Bool.false_eq_true] at hc36
        refine vc_region ?_
        refine vc_y rfl rfl (y_mv rfl) ?_
        refine vc_y rfl rfl (y_add rfl rfl rfl (by omega) (by omega)) ?_
        refine vc_y rfl rfl (y_as rfl) ?_
        refine vc_end ?_
        refine vq_then ?_
        refine vc_keep [(0, _), (5, _), (6, _)] ⟨rfl, rfl, rfl, trivial⟩ ?_
        refine vc_seq ?_
        refine vc_region ?_
        refine vc_y rfl rfl (y_mv rfl) ?_
        refine vc_y rfl rfl (y_gtr rfl rfl) ?_
        refine vc_end ?_
        refine vq_then ?_
        refine vc_keep [(0, _), (5, _), (6, _), (40, _)] ⟨rfl, rfl, rfl, rfl, trivial⟩ ?_
        refine vc_ifs rfl ?_ ?_
        · intro hc40
          try simp only [decide_eq_true_eq, decide_eq_false_iff_not, Bool.not_eq_true', Bool.not_eq_false', Bool.not_eq_true, Bool.not_eq_false, Int.not_lt, Int.not_le, Nat.not_lt, Nat.not_le, Bool.not_true, Bool.not_false, Bool.true_eq_false, Bool.false_eq_true] at hc40
          refine vc_seq ?_
          refine vc_region ?_
          refine vc_y rfl rfl (y_as rfl) ?_
          refine vc_y rfl rfl (y_as rfl) ?_
          refine vc_end ?_
          refine vq_then ?_
          refine vc_keep [(2, _), (3, _)] ⟨rfl, rfl, trivial⟩ ?_
          refine vc_ret ?_
          refine vq_block_ret ?_
          refine vq_then_ret ?_
          refine vq_then_ret ?_
          refine vq_block_ret ?_
          refine vq_then_ret ?_
          refine vq_ret2 st (.inl rfl) Try.results29 (.tmp rfl) (.tmp rfl) ?_
          refine ⟨_, rfl, ?_⟩
          refine ⟨?_, st.chg⟩
          rw [show prtRes A = ([], 4) by unfold prtRes; rw [if_neg (by rw [hall]; simp), if_pos (by omega)]]
          rfl
        · intro hc40
          try simp only [decide_eq_true_eq, decide_eq_false_iff_not, Bool.not_eq_true', Bool.not_eq_false', Bool.not_eq_true, Bool.not_eq_false, Int.not_lt, Int.not_le, Nat.not_lt, Nat.not_le, Bool.not_true, Bool.not_false, Bool.true_eq_false, Bool.false_eq_true] at hc40
          refine vc_code_skip ?_
          refine vq_block ?_
          refine vq_then ?_
          refine vc_keep [(0, _), (5, _), (6, _)] ⟨rfl, rfl, rfl, trivial⟩ ?_
          refine vc_region ?_
          refine vc_y rfl rfl (y_mv rfl) ?_
          refine vc_y rfl rfl (y_add rfl rfl rfl (by omega) (by omega)) ?_
          refine vc_y rfl rfl (y_as rfl) ?_
          refine vc_end ?_
          refine vq_again (j + 1)  ⟨rfl, int_congr (by rw [hstp]; omega), rfl, trivial⟩ st ?_ ?_
          · exact ⟨by omega, by rw [hstp]; omega⟩
          · omega
      · intro hc36
        try simp only [decide_eq_true_eq, decide_eq_false_iff_not, Bool.not_eq_true', Bool.not_eq_false', Bool.not_eq_true, Bool.not_eq_false, Int.not_lt, Int.not_le, Nat.not_lt, Nat.not_le, Bool.not_true, Bool.not_false, Bool.true_eq_false, Bool.false_eq_true] at hc36
        refine vc_code_skip ?_
        refine vq_then ?_
        refine vc_keep [(0, _), (5, _), (6, _)] ⟨rfl, rfl, rfl, trivial⟩ ?_
        refine vc_seq ?_
        refine vc_region ?_
        refine vc_y rfl rfl (y_mv rfl) ?_
        refine vc_y rfl rfl (y_gtr rfl rfl) ?_
        refine vc_end ?_
        refine vq_then ?_
        refine vc_keep [(0, _), (5, _), (6, _), (40, _)] ⟨rfl, rfl, rfl, rfl, trivial⟩ ?_
        refine vc_ifs rfl ?_ ?_
        · intro hc40
          try simp only [decide_eq_true_eq, decide_eq_false_iff_not, Bool.not_eq_true', Bool.not_eq_false', Bool.not_eq_true, Bool.not_eq_false, Int.not_lt, Int.not_le, Nat.not_lt, Nat.not_le, Bool.not_true, Bool.not_false, Bool.true_eq_false, Bool.false_eq_true] at hc40
          refine vc_seq ?_
          refine vc_region ?_
          refine vc_y rfl rfl (y_as rfl) ?_
          refine vc_y rfl rfl (y_as rfl) ?_
          refine vc_end ?_
          refine vq_then ?_
          refine vc_keep [(2, _), (3, _)] ⟨rfl, rfl, trivial⟩ ?_
          refine vc_ret ?_
          refine vq_block_ret ?_
          refine vq_then_ret ?_
          refine vq_then_ret ?_
          refine vq_block_ret ?_
          refine vq_then_ret ?_
          refine vq_ret2 st (.inl rfl) Try.results29 (.tmp rfl) (.tmp rfl) ?_
          refine ⟨_, rfl, ?_⟩
          refine ⟨?_, st.chg⟩
          rw [show prtRes A = ([], 4) by unfold prtRes; rw [if_neg (by rw [hall]; simp), if_pos (by omega)]]
          rfl
        · intro hc40
          try simp only [decide_eq_true_eq, decide_eq_false_iff_not, Bool.not_eq_true', Bool.not_eq_false', Bool.not_eq_true, Bool.not_eq_false, Int.not_lt, Int.not_le, Nat.not_lt, Nat.not_le, Bool.not_true, Bool.not_false, Bool.true_eq_false, Bool.false_eq_true] at hc40
          refine vc_code_skip ?_
          refine vq_block ?_
          refine vq_then ?_
          refine vc_keep [(0, _), (5, _), (6, _)] ⟨rfl, rfl, rfl, trivial⟩ ?_
          refine vc_region ?_
          refine vc_y rfl rfl (y_mv rfl) ?_
          refine vc_y rfl rfl (y_add rfl rfl rfl (by omega) (by omega)) ?_
          refine vc_y rfl rfl (y_as rfl) ?_
          refine vc_end ?_
          refine vq_again (j + 1)  ⟨rfl, int_congr (by rw [hstp]; omega), rfl, trivial⟩ st ?_ ?_
          · exact ⟨by omega, by rw [hstp]; omega⟩
          · omega
    · intro hc24
      try simp only [decide_eq_true_eq, decide_eq_false_iff_not, Bool.not_eq_true', Bool.not_eq_false', Bool.not_eq_true, Bool.not_eq_false, Int.not_lt, Int.not_le, Nat.not_lt, Nat.not_le, Bool.not_true, Bool.not_false, Bool.true_eq_false, Bool.false_eq_true] at hc24
      obtain rfl : j = A.length := by omega
      rw [List.take_length] at hs6
      refine vc_exit ?_
      refine vq_then_exit ?_
      refine vq_then_exit ?_
      refine vq_block_exit ?_
      refine vq_then ?_
      refine vc_keep [(0, _)] ⟨rfl, trivial⟩ ?_
      refine vc_seq ?_
      refine vc_region ?_
      replace st := st.ownNil 5 1
      refine vc_y rfl rfl (y_as rfl) ?_
      refine vc_end ?_
      refine vq_then ?_
      refine vc_keep [(0, _), (7, _)] ⟨rfl, rfl, trivial⟩ ?_
      refine vc_seq ?_
      refine vc_seq ?_
      refine vc_region ?_
      refine vc_y rfl rfl (y_as rfl) ?_
      refine vc_end ?_
      refine vq_then ?_
      refine vc_keep [(0, _), (7, _), (8, _)] ⟨rfl, rfl, rfl, trivial⟩ ?_
      refine vc_block ?_
      refine vc_loop (w0 := _) (M := _) (fun (x : Nat × List UInt8 × Option Addr × Nat) => [(0, .slice oa A.length cap), (7, .slice x.2.2.1 x.2.1.length x.2.2.2), (8, .int .i64 (x.1 : Int))]) (fun x => [.own (.slice x.2.2.1 x.2.1.length x.2.2.2) 5 1 x.2.1.length (bytesL x.2.1)]) (fun x _ => x.1 ≤ A.length ∧ x.2.1 = joinB (txts (A.take x.1))) (fun x => A.length - x.1) (0, [], none, 0) ⟨rfl, rfl, rfl, trivial⟩ st ⟨by simp, by simp [txts, joinB]⟩ ?_
      rintro ⟨j, bs, oj, cj⟩ w ⟨hj, hbs⟩ st
      dsimp only at *
      have hbl2 : bs.length ≤ 1100000 := by rw [hbs, joinA_len]; have := sumT_take_le A j; simp only [List.length_take]; omega
      refine vc_seq ?_
      refine vc_seq ?_
      refine vc_region ?_
      refine vc_y rfl rfl (y_mv rfl) ?_
      refine vc_y rfl rfl (y_mv rfl) ?_
      refine vc_y rfl rfl (y_lensl rfl Try.underlying24) ?_
      refine vc_y rfl rfl (y_lss rfl rfl) ?_
      refine vc_end ?_
      refine vq_then ?_
      refine vc_keep [(0, _), (7, _), (8, _), (44, _)] ⟨rfl, rfl, rfl, rfl, trivial⟩ ?_
      refine vc_ifs rfl ?_ ?_
      · intro hc44
        try simp only [decide_eq_true_eq, decide_eq_false_iff_not, Bool.not_eq_true', Bool.not_eq_false', Bool.not_eq_true, Bool.not_eq_false, Int.not_lt, Int.not_le, Nat.not_lt, Nat.not_le, Bool.not_true, Bool.not_false, Bool.true_eq_false, Bool.false_eq_true] at hc44
        obtain ⟨ga, fa, rfl, hta⟩ := hA.resolve_left (by intro h; have := congrArg List.length h; simp only [List.length_nil] at this; omega)
        have hbx := bulk_le (getD_mem (A := A) (j := j) (by omega))
        have htx := txts_take (A := A) (j := j) (by omega)
        refine vc_code_skip ?_
        refine vq_then ?_
        refine vc_keep [(0, _), (7, _), (8, _)] ⟨rfl, rfl, rfl, trivial⟩ ?_
        refine vc_seq ?_
        refine vc_block ?_
        refine vc_seq ?_
        refine vc_seq ?_
        refine vc_region ?_
        refine vc_y rfl rfl (y_mv rfl) ?_
        refine vc_y rfl rfl (y_gtr rfl rfl) ?_
        refine vc_end ?_
        refine vq_then ?_
        refine vc_keep [(0, _), (7, _), (8, _), (48, _)] ⟨rfl, rfl, rfl, rfl, trivial⟩ ?_
        refine vc_ifs rfl ?_ ?_
        · intro hc48
          try simp only [decide_eq_true_eq, decide_eq_false_iff_not, Bool.not_eq_true', Bool.not_eq_false', Bool.not_eq_true, Bool.not_eq_false, Int.not_lt, Int.not_le, Nat.not_lt, Nat.not_le, Bool.not_true, Bool.not_false, Bool.true_eq_false, Bool.false_eq_true] at hc48
          refine vc_region ?_
          refine vc_y rfl rfl (y_mv rfl) ?_
          refine vc_e (e_bs1 (l := [_]) st rfl rfl rfl rfl Try.underlying62 Try.sizeOf5 rfl rfl rfl Try.zeroValue5 ?_)
          intro b50 w hb50 st
          refine vc_e (e_app (bytes := 1) st 1 0 rfl rfl rfl rfl rfl rfl Try.underlying62 Try.info5 rfl rfl rfl rfl rfl (by simp) rfl rfl (by unfold maxLen; omega) (by omega) ?_)
          intro oa51 cap51 w st; dsimp only [setNth] at st
          refine vc_y rfl rfl (y_as rfl) ?_
          refine vc_end ?_
          refine vq_then ?_
          refine vc_keep [(0, _), (7, _), (8, _)] ⟨rfl, rfl, rfl, trivial⟩ ?_
          refine vc_region ?_
          refine vc_y rfl rfl (y_mv rfl) ?_
          refine vc_y rfl rfl (y_mv rfl) ?_
          refine vc_y rfl rfl (y_mv rfl) ?_
          refine vc_y rfl rfl ((by first | exact y_ia0 (k := j) rfl rfl Try.underlying24 Try.sizeOf33 rfl (by omega) | exact y_ia (k := j) rfl rfl Try.underlying24 Try.sizeOf33 rfl (by omega))) ?_
          refine vc_y rfl rfl ((by first | exact y_faz (k := 1) rfl Try.underlying33 rfl rfl Try.sizeOf9 rfl | exact y_fa (k := 1) rfl Try.underlying33 rfl rfl Try.sizeOf9 rfl)) ?_
          refine vc_y rfl rfl ((by first | exact y_ldc rfl Try.isAgg9 (st.chg.cell (hta j (by omega)).2.1 (by simp)) | exact y_ld st 0 rfl Try.isAgg9 rfl rfl | exact y_ld st 1 rfl Try.isAgg9 rfl rfl | exact y_ld st 2 rfl Try.isAgg9 rfl rfl)) ?_
          refine vc_e (e_apps st 1 rfl rfl rfl rfl rfl Try.underlying62 Try.underlying9 Try.info5 rfl rfl rfl rfl rfl (by omega) ?_)
          intro oa58 cap58 w st; dsimp only [setNth] at st
          refine vc_y rfl rfl (y_as rfl) ?_
          refine vc_end ?_
          refine vq_block ?_
          refine vq_then ?_
          refine vc_keep [(0, _), (7, _), (8, _)] ⟨rfl, rfl, rfl, trivial⟩ ?_
          refine vc_region ?_
          refine vc_y rfl rfl (y_mv rfl) ?_
          refine vc_y rfl rfl (y_add rfl rfl rfl (by omega) (by omega)) ?_
          refine vc_y rfl rfl (y_as rfl) ?_
          refine vc_end ?_
          refine vq_again (j + 1, bs ++ [32] ++ (A.getD j tv0).t, oa58, cap58) ⟨rfl, by simp only [List.length_append, List.length_cons, List.length_nil]; rfl, rfl, trivial⟩ ?_ ⟨by dsimp only; omega, ?_⟩ (by dsimp only; omega)
          · simp only [List.length_append, List.length_cons, List.length_nil, bytesL, List.map_append, List.map_cons, List.map_nil]
            exact st.drop (by repeat (first | exact List.Sublist.slnil | apply List.Sublist.cons_cons | apply List.Sublist.cons))
          · dsimp only
            rw [htx, joinB_snoc _ _ (by intro h; have := congrArg List.length h; simp only [txts, List.length_map, List.length_take, List.length_nil] at this; omega), ← hbs]
        · intro hc48
          try simp only [decide_eq_true_eq, decide_eq_false_iff_not, Bool.not_eq_true', Bool.not_eq_false', Bool.not_eq_true, Bool.not_eq_false, Int.not_lt, Int.not_le, Nat.not_lt, Nat.not_le, Bool.not_true, Bool.not_false, Bool.true_eq_false, Bool.false_eq_true] at hc48
          refine vc_code_skip ?_
          refine vq_then ?_
          refine vc_keep [(0, _), (7, _), (8, _)] ⟨rfl, rfl, rfl, trivial⟩ ?_
          refine vc_region ?_
          refine vc_y rfl rfl (y_mv rfl) ?_
          refine vc_y rfl rfl (y_mv rfl) ?_
          refine vc_y rfl rfl (y_mv rfl) ?_
          refine vc_y rfl rfl ((by first | exact y_ia0 (k := j) rfl rfl Try.underlying24 Try.sizeOf33 rfl (by omega) | exact y_ia (k := j) rfl rfl Try.underlying24 Try.sizeOf33 rfl (by omega))) ?_
          refine vc_y rfl rfl ((by first | exact y_faz (k := 1) rfl Try.underlying33 rfl rfl Try.sizeOf9 rfl | exact y_fa (k := 1) rfl Try.underlying33 rfl rfl Try.sizeOf9 rfl)) ?_
          refine vc_y rfl rfl ((by first | exact y_ldc rfl Try.isAgg9 (st.chg.cell (hta j (by omega)).2.1 (by simp)) | exact y_ld st 0 rfl Try.isAgg9 rfl rfl | exact y_ld st 1 rfl Try.isAgg9 rfl rfl | exact y_ld st 2 rfl Try.isAgg9 rfl rfl)) ?_
          refine vc_e (e_apps st 0 rfl rfl rfl rfl rfl Try.underlying62 Try.underlying9 Try.info5 rfl rfl rfl rfl rfl (by omega) ?_)
          intro oa58 cap58 w st; dsimp only [setNth] at st
          refine vc_y rfl rfl (y_as rfl) ?_
          refine vc_end ?_
          refine vq_block ?_
          refine vq_then ?_
          refine vc_keep [(0, _), (7, _), (8, _)] ⟨rfl, rfl, rfl, trivial⟩ ?_
          refine vc_region ?_
          refine vc_y rfl rfl (y_mv rfl) ?_
          refine vc_y rfl rfl (y_add rfl rfl rfl (by omega) (by omega)) ?_
          refine vc_y rfl rfl (y_as rfl) ?_
          refine vc_end ?_
          obtain rfl : j = 0 := by omega
          have hb0 : bs = [] := by rw [hbs]; simp [txts, joinB]
          subst hb0
          refine vq_again (0 + 1, (A.getD 0 tv0).t, oa58, cap58) ⟨rfl, by simp only [List.length_nil, Nat.zero_add]; rfl, rfl, trivial⟩ ?_ ⟨by dsimp only; omega, ?_⟩ (by dsimp only; omega)
          · simp only [List.length_nil, Nat.zero_add, bytesL, List.map_nil, List.nil_append] at st ⊢
            exact st.drop (by repeat (first | exact List.Sublist.slnil | apply List.Sublist.cons_cons | apply List.Sublist.cons))
          · dsimp only
            rw [htx]; simp [txts, joinB]
      · intro hc44
        try simp only [decide_eq_true_eq, decide_eq_false_iff_not, Bool.not_eq_true', Bool.not_eq_false', Bool.not_eq_true, Bool.not_eq_false, Int.not_lt, Int.not_le, Nat.not_lt, Nat.not_le, Bool.not_true, Bool.not_false, Bool.true_eq_false, Bool.false_eq_true] at hc44
        obtain rfl : j = A.length := by omega
        rw [List.take_length] at hbs
        refine vc_exit ?_
        refine vq_then_exit ?_
        refine vq_then_exit ?_
        refine vq_block_exit ?_
        refine vq_then ?_
        refine vc_keep [(7, _)] ⟨rfl, trivial⟩ ?_
        refine vc_seq ?_
        refine vc_region ?_
        refine vc_y rfl rfl (y_mv rfl) ?_
        refine vc_y rfl rfl (y_b2s rfl (own_rdp (st.res (i := 0) rfl)) rfl Try.underlying62 Try.underlying5 Try.underlying9) ?_
        refine vc_y rfl rfl (y_as rfl) ?_
        refine vc_y rfl rfl (y_as rfl) ?_
        refine vc_end ?_
        refine vq_then ?_
        refine vc_keep [(2, _), (3, _)] ⟨rfl, rfl, trivial⟩ ?_
        refine vc_ret ?_
        refine vq_ret2 st (.inl rfl) Try.results29 (.tmp rfl) (.tmp rfl) ?_
        refine ⟨_, rfl, ?_⟩
        refine ⟨?_, st.chg⟩
        rw [show prtRes A = (joinB (txts A), 0) by unfold prtRes; rw [if_neg (by rw [hall]; simp), if_neg (by omega)], ← hbs]
        rfl

end Go.Proofs.Ytakepmhgmgpkkaa
