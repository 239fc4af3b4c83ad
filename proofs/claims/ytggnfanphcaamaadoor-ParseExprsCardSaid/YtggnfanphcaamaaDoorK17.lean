/- A part of the proof: contracts of functions and plain laws; each theorem says its own conditions. -/
import Derived.Test.YtggnfanphcaamaaDoorK3
import Derived.Test.YtggnfanphcaamaaDoorK16
import Derived.Test.YtggnfanphcaamaaDoorK12
/- What is parsed may be written: expressions. -/
namespace ParS
open Sx LexS
set_option linter.unusedVariables false
set_option linter.unusedSimpArgs false

structure TkOk (t : Tok) : Prop where
  name : t.kind = 1 → isName t.text = true
  word : t.word ≤ 9223372036854775807
  at_ : t.at_ ≤ 1048576
def TsOk (ts : List Tok) : Prop := (∀ t ∈ ts, TkOk t) ∧ ts.length ≤ 1048576
theorem TsOk.tail {ts : List Tok} (h : TsOk ts) : TsOk ts.tail := ⟨fun t ht => h.1 t (List.mem_of_mem_tail ht), by rw [List.length_tail]; have := h.2; omega⟩
theorem TsOk.here {ts : List Tok} (h : TsOk ts) : TkOk (ParS.here ts) := by
  cases ts with
  | nil => exact ⟨fun h => (by cases h), by simp [ParS.here, tok0], by simp [ParS.here, tok0]⟩
  | cons x l => exact h.1 x (.head _)
theorem i64_nat {n : Nat} (h : n ≤ 9223372036854775807) : i64 (n : Int) := ⟨by omega, by omega⟩
theorem TkOk.ati {t : Tok} (h : TkOk t) : i64 (t.at_ : Int) := i64_nat (by have := h.at_; omega)
theorem rightE_mono : ∀ (n : Nat) (x : Ex), SizeOf.sizeOf x = n → ∀ d d', rightE x d = true → d' ≤ d → rightE x d' = true := by
  intro n
  refine Nat.strongRecOn n fun n ih => ?_
  intro x hn d d' hr hd
  obtain ⟨hle, hcase⟩ := rightE_iff.1 hr
  refine rightE_iff.2 ⟨by omega, ?_⟩
  have hkid : ∀ y, y ∈ x.kids → ∀ a b, rightE y a = true → b ≤ a → rightE y b = true := fun y hy a b h1 h2 => ih _ (by have := memE_lt hy; omega) y rfl a b h1 h2
  rcases hcase with h | h | h | h
  · exact .inl h
  · exact .inr (.inl h)
  · obtain ⟨h1, h2, h3, h4, y, hy, hry⟩ := h
    refine .inr (.inr (.inl ⟨h1, h2, h3, h4, y, hy, hkid y (by rw [hy]; exact .head _) _ _ hry ?_⟩))
    split <;> omega
  · obtain ⟨h1, h2, h3, h4, y, z, hyz, hry, hrz⟩ := h
    refine .inr (.inr (.inr ⟨h1, h2, h3, h4, y, z, hyz, hkid y (by rw [hyz]; exact .head _) _ _ hry ?_, hkid z (by rw [hyz]; exact .tail _ (.head _)) _ _ hrz ?_⟩))
    · split <;> omega
    · split <;> omega
theorem right_le {x : Ex} {d d' : Nat} (h : rightE x d = true) (hd : d' ≤ d) : rightE x d' = true := rightE_mono _ x rfl d d' h hd
/-- a tree that may be a part at the depth 'd' -/
structure Prt (x : Ex) (d : Nat) : Prop where
  ok : OkE x
  r : rightE x d = true
  par : x.k = 4 → rightE x (d + 1) = true
/-- how an operand's reader answers -/
def Reads (u : List Tok → PR Ex) (d : Nat) : Prop := ∀ r x r', TsOk r → u r = .ok (x, r') → Prt x d ∧ TsOk r'
theorem findO_two {s : List UInt8} {op : Nat} (h : findO s = some op) : twoOp (op : Int) = true := by
  unfold findO at h
  have h1 := List.find?_some h
  simp only [Bool.and_eq_true] at h1
  exact h1.1
theorem opT_two {t : Tok} {op : Nat} (h : opT t = some op) : twoOp (op : Int) = true := by
  unfold opT at h; split at h
  · exact findO_two h
  · cases h
theorem okE_bin {op : Nat} {a : Nat} {x y : Ex} (hop : twoOp (op : Int) = true) (ha : i64 (a : Int)) (hx : OkE x) (hy : OkE y) : OkE (binE op a x y) := by
  simp only [twoOp, decide_eq_true_eq] at hop
  refine .mk ⟨by decide, by decide⟩ ⟨by omega, by omega⟩ ⟨by decide, by decide⟩ ha (by simp) ?_
  intro j z hz
  match j, hz with
  | 0, hz => simp at hz; subst hz; exact hx
  | 1, hz => simp at hz; subst hz; exact hy
  | j + 2, hz => simp at hz
theorem loopE_right {u : List Tok → PR Ex} {d : Nat} (hd : d ≤ 64) (hu : Reads u d) : ∀ (n : Nat) (lv : Int) (x : Ex) (r : List Tok) (z : Ex) (r' : List Tok), TsOk r → loopE u n lv x r = .ok (z, r') →
    OkE x → rightE x d = true → (x.k = 4 → rightE x (d + 1) = true ∨ lv ≤ lvlO x.op) → (x.k = 4 → rightE x (d + 1) = true ∨ ∀ o, opT (here r) = some o → lvlO (o : Int) ≤ lvlO x.op) →
    OkE z ∧ rightE z d = true ∧ (z.k = 4 → rightE z (d + 1) = true ∨ lv ≤ lvlO z.op) ∧ (∀ o, opT (here r') = some o → lvlO (o : Int) < lv) ∧ TsOk r'
  | 0, lv, x, r, z, r', _, h, _, _, _, _ => by simp [loopE] at h
  | n + 1, lv, x, r, z, r', hr, h, h1, h2, h3, h4 => by
    simp only [loopE] at h
    cases hop : opT (here r) with
    | none =>
      rw [hop] at h; cases h
      exact ⟨h1, h2, h3, fun o ho => (by rw [hop] at ho; cases ho), hr⟩
    | some op =>
      rw [hop] at h
      simp only at h
      split at h
      · rename_i hlt
        cases h
        exact ⟨h1, h2, h3, fun o ho => (by rw [hop] at ho; cases ho; exact hlt), hr⟩
      · rename_i hge
        cases hy : u r.tail with
        | error f => rw [hy] at h; cases h
        | ok p =>
          obtain ⟨y, r1⟩ := p
          rw [hy] at h
          simp only at h
          obtain ⟨py, hr1⟩ := hu _ _ _ hr.tail hy
          cases hz : loopE u n (lvlO (op : Int) + 1) y r1 with
          | error f => rw [hz] at h; cases h
          | ok q =>
            obtain ⟨z1, r2⟩ := q
            rw [hz] at h
            simp only at h
            obtain ⟨a1, a2, a3, a4, a5⟩ := loopE_right hd hu n _ _ _ _ _ hr1 hz py.ok py.r (fun k => .inl (py.par k)) (fun k => .inl (py.par k))
            have htwo := opT_two hop
            have hleft : rightE x (if inn (op : Int) x false = true then d + 1 else d) = true := by
              split
              · rename_i hin
                unfold inn at hin
                simp only [Bool.and_eq_true, decide_eq_true_eq, Bool.false_and, Bool.or_false] at hin
                rcases h4 hin.1 with k | k
                · exact k
                · have := k op hop; omega
              · exact h2
            have hright : rightE z1 (if inn (op : Int) z1 true = true then d + 1 else d) = true := by
              split
              · rename_i hin
                unfold inn at hin
                simp only [Bool.and_eq_true, decide_eq_true_eq, Bool.true_and, Bool.or_eq_true] at hin
                rcases a3 hin.1 with k | k
                · exact k
                · rcases hin.2 with k2 | k2 <;> omega
              · exact a2
            have hb : rightE (binE op (here r).at_ x z1) d = true := rightE_iff.2 ⟨hd, .inr (.inr (.inr ⟨rfl, htwo, rfl, rfl, x, z1, rfl, hleft, hright⟩))⟩
            exact loopE_right hd hu n lv _ r2 z r' a5 h (okE_bin htwo hr.here.ati h1 a1) hb (fun _ => .inr (by show lv ≤ lvlO (op : Int); omega)) (fun _ => .inr fun o ho => by have := a4 o ho; show lvlO (o : Int) ≤ lvlO (op : Int); omega)
theorem exprW_right {u : List Tok → PR Ex} {d : Nat} (hd : d ≤ 64) (hg : Goes u) (hu : Reads u d) {r r' : List Tok} {x : Ex} (hr : TsOk r) (h : exprW u r = .ok (x, r')) : OkE x ∧ rightE x d = true ∧ TsOk r' := by
  rw [← climbE_expr u hg] at h
  unfold climbE at h
  cases hx : u r with
  | error f => rw [hx] at h; cases h
  | ok p =>
    obtain ⟨y, r1⟩ := p
    rw [hx] at h
    simp only at h
    obtain ⟨py, hr1⟩ := hu _ _ _ hr hx
    obtain ⟨a1, a2, a3, a4, a5⟩ := loopE_right hd hu _ _ _ _ _ _ hr1 h py.ok py.r (fun k => .inl (py.par k)) (fun k => .inl (py.par k))
    exact ⟨a1, a2, a5⟩
theorem leaf_right (e : Nat) {d : Nat} (hd : d ≤ 64) : Reads (leafP e) d := by
  intro r x r' hr h
  unfold leafP at h
  have hh := hr.here
  split at h
  · cases h
    refine ⟨⟨.mk ⟨by decide, by decide⟩ ⟨by decide, by decide⟩ (i64_nat hh.word) hh.ati (by simp) (fun j z hz => by simp at hz), rightE_iff.2 ⟨hd, .inl ⟨rfl, by simp [Ex.wd], rfl, rfl, rfl⟩⟩, fun k => by simp [Ex.k] at k⟩, hr.tail⟩
  · split at h
    · rename_i hk
      cases h
      refine ⟨⟨.mk ⟨by decide, by decide⟩ ⟨by decide, by decide⟩ ⟨by decide, by decide⟩ hh.ati (by simp) (fun j z hz => by simp at hz), rightE_iff.2 ⟨hd, .inr (.inl ⟨rfl, hh.name hk, rfl, rfl, rfl⟩)⟩, fun k => by simp [Ex.k] at k⟩, hr.tail⟩
    · cases h
theorem unary_right (e : Nat) : ∀ (m d : Nat), d + m = 64 → Reads (unaryP e m) d
  | 0, d, hd => by
    intro r x r' hr h
    simp only [unaryP] at h
    split at h
    · cases h
    · exact leaf_right e (by omega) r x r' hr h
  | m + 1, d, hd => by
    intro r x r' hr h
    simp only [unaryP] at h
    have ih := unary_right e m (d + 1) (by omega)
    split at h
    · split at h
      · cases hx : exprW (unaryP e m) r.tail with
        | error f => rw [hx] at h; cases h
        | ok p =>
          obtain ⟨y, r1⟩ := p
          rw [hx] at h
          simp only at h
          obtain ⟨a1, a2, a3⟩ := exprW_right (by omega) (unary_goes e m) ih hr.tail hx
          cases hw : want e [41] r1 with
          | error f => rw [hw] at h; cases h
          | ok r2 =>
            rw [hw] at h
            cases h
            obtain ⟨_, rfl⟩ := want_ok hw
            exact ⟨⟨a1, right_le a2 (by omega), fun _ => a2⟩, a3.tail⟩
      · cases hx : unaryP e m r.tail with
        | error f => rw [hx] at h; cases h
        | ok p =>
          obtain ⟨y, r1⟩ := p
          rw [hx] at h
          cases h
          obtain ⟨py, hr1⟩ := ih _ _ _ hr.tail hx
          have hop : oneOp (if (here r).text = [33] then 18 else 17) = true := by split <;> decide
          refine ⟨⟨.mk ⟨by decide, by decide⟩ (by split <;> exact ⟨by decide, by decide⟩) ⟨by decide, by decide⟩ hr.here.ati (by simp) (fun j z hz => ?_), rightE_iff.2 ⟨by omega, .inr (.inr (.inl ⟨rfl, hop, rfl, rfl, y, rfl, ?_⟩))⟩, fun k => by simp [Ex.k] at k⟩, hr1⟩
          · match j, hz with
            | 0, hz => simp at hz; subst hz; exact py.ok
            | j + 1, hz => simp at hz
          · split
            · rename_i hk; exact py.par hk
            · exact py.r
    · exact leaf_right e (by omega) r x r' hr h
theorem expr_right {e : Nat} {r r' : List Tok} {x : Ex} (hr : TsOk r) (h : exprP e 64 r = .ok (x, r')) : OkE x ∧ rightE x 0 = true ∧ TsOk r' := exprW_right (by omega) (unary_goes e 64) (unary_right e 64 0 rfl) hr h
end ParS


/- What is parsed may be written: statements, programs. -/
namespace ParS
open Sx LexS
set_option linter.unusedVariables false
set_option linter.unusedSimpArgs false

section
variable {e : Nat} (he : e ≤ 1048576)
include he in
theorem okEs_one {x : Ex} (h : OkE x) : OkEs [x] := ⟨by simp, fun j y hy => by
  match j, hy with
  | 0, hy => simp at hy; subst hy; exact h
  | j + 1, hy => simp at hy⟩
include he in
include he in
include he in
include he in
include he in
include he in
include he in
end
theorem front_ts {s : List UInt8} (hs : s.length ≤ 65536) : TsOk (front s).1 := by
  obtain ⟨h1, h2⟩ := front_ok (s := s) (T := (front s).1) (f := (front s).2) rfl
  exact ⟨fun t ht => ⟨(h2 t ht).1, (h2 t ht).2.1, by have := (h2 t ht).2.2; omega⟩, by omega⟩
/-- an expression that is parsed may be printed -/
theorem exprRes_right {s : List UInt8} {x : Ex} {a b : Nat} (h : exprRes s = (x, 0, a, b)) : OkE x ∧ rightE x 0 = true := by
  unfold exprRes at h
  split at h
  · cases h
  · rename_i hs
    split at h
    · cases h
    · have hts := front_ts (s := s) (by omega)
      split at h
      · cases h
      · rename_i y r hq
        split at h
        · cases h
          obtain ⟨h1, h2, _⟩ := expr_right hts hq
          exact ⟨h1, h2⟩
        · cases h
end ParS


namespace Go.Proofs.YtggnfanphcaamaaDoor
open Go.RowKit Sx LexS ParS
set_option linter.unusedVariables false
set_option linter.unusedSimpArgs false
section
variable {n : Fr} {kn : Kn} {w : World} {d ty : Nat} {pos : String} {aft : Array Edge} {g : Option (Nat × Bool)}
theorem y_eqF {U : Nat} {x y : Operand} {p q r s : Int} (hx : evO kn x = some (.agg [.int .i64 p, .int .i64 q].toArray)) (hy : evO kn y = some (.agg [.int .i64 r, .int .i64 s].toArray)) : Y Tryd.prog n kn w ⟨some d, .binOp .eql 29 x y U, ty, pos, aft, g⟩ (.bool (decide (p = r) && decide (q = s))) :=
  y_bo hx hy (by
    have h1 := run_eqGuard_agg (P := Tryd.prog) w .eql 29 x y [.int .i64 p, .int .i64 q].toArray [.int .i64 r, .int .i64 s].toArray (by kernel_rfl)
    have h2 := run_eql_struct (P := Tryd.prog) w 29 [.int .i64 p, .int .i64 q].toArray [.int .i64 r, .int .i64 s].toArray
    rw [run_equalIn_agg w 9999 29 _ _ (by kernel_rfl) (by kernel_rfl), eqFieldsF] at h2
    simp only [Sem.run_bind, h1, Result.andThen_ok]
    have h3 : (binOp .eql 29 (.agg [.int .i64 p, .int .i64 q].toArray) (.agg [.int .i64 r, .int .i64 s].toArray)).run Tryd.prog w = .ok (.bool (decide (p = r) && decide (q = s))) w := by rw [h2]; rfl
    exact h3)
end
theorem okE_ex0 : OkE ex0 := .mk ⟨by decide, by decide⟩ ⟨by decide, by decide⟩ ⟨by decide, by decide⟩ ⟨by decide, by decide⟩ (by simp) (fun j y hy => by simp at hy)
theorem okE_res {s : List UInt8} {x : Ex} {e a b : Nat} (h : exprRes s = (x, e, a, b)) : OkE x := by
  by_cases h0 : e = 0
  · subst h0; exact (exprRes_right h).1
  · have : x = ex0 := by
      unfold exprRes at h
      split at h
      · cases h; rfl
      · split at h
        · cases h; rfl
        · split at h
          · cases h; rfl
          · split at h
            · cases h; exact absurd rfl h0
            · cases h; rfl
    subst this
    exact okE_ex0

set_option maxHeartbeats 2000000 in
theorem exprs_law (s : List UInt8) (w : World) (hsg : SigAt 0 w) : Ret Tryd.prog 3 [str s] w fun v w' => v = .bool true ∧ Chg [] w w' := by
  refine ret_of [_] Tryd.func3 rfl Tryd.ntmps3 rfl ?_
  have st := St.init w []
  obtain ⟨w0, rfl⟩ : ∃ w0, w0 = w := ⟨_, rfl⟩
  obtain ⟨x, e, fp, fr, hR⟩ : ∃ x e fp fr, exprRes s = (x, e, fp, fr) := ⟨_, _, _, _, rfl⟩
  have hok := okE_res hR
  refine vc_seq ?_
  refine vc_region ?_
  refine vc_y rfl rfl (y_as rfl) ?_
  refine vc_end ?_
  refine vq_then ?_
  refine vc_keep [(0, _)] ⟨rfl, trivial⟩ ?_
  refine vc_seq ?_
  refine vc_region ?_
  refine vc_y rfl rfl (y_mv rfl) ?_
  refine vc_e (e_call [_] rfl rfl Tryd.call8 rfl (expr_any s _ (hsg.kept st.chg (by simp))) ?_)
  rintro _ w h
  rw [ExprPost, hR] at h
  dsimp only at h
  obtain ⟨cw, _, ⟨oq1, cq1, Sq1, rfl, hT, hN⟩, rfl⟩ := h
  replace st := st.pushR cw (holds_ex hT) hN.2
  refine vc_y rfl rfl (y_mv rfl) ?_
  refine vc_y rfl rfl (y_ext rfl rfl) ?_
  refine vc_y rfl rfl (y_ext rfl rfl) ?_
  refine vc_y rfl rfl (y_ext rfl rfl) ?_
  refine vc_e (e_al (l := [_, _, _, _, _, _]) st rfl rfl Tryd.zeroValue26 rfl ?_)
  intro b3 w hb3 st
  refine vc_e (e_al (l := [_, _]) st rfl rfl Tryd.zeroValue29 rfl ?_)
  intro b5 w hb5 st
  first
  | refine vc_e (e_sts (vs := [_, _, _, _, _, _]) st 0 rfl rfl rfl rfl rfl Tryd.sizeOf26 rfl rfl (by first | (right; assumption) | (left; simp)) ?_)
  | refine vc_e (e_sts (vs := [_, _, _, _, _, _]) st 1 rfl rfl rfl rfl rfl Tryd.sizeOf26 rfl rfl (by first | (right; assumption) | (left; simp)) ?_)
  | refine vc_e (e_sts (vs := [_, _, _, _, _, _]) st 2 rfl rfl rfl rfl rfl Tryd.sizeOf26 rfl rfl (by first | (right; assumption) | (left; simp)) ?_)
  | refine vc_e (e_sts (vs := [_, _, _, _, _, _]) st 3 rfl rfl rfl rfl rfl Tryd.sizeOf26 rfl rfl (by first | (right; assumption) | (left; simp)) ?_)
  | refine vc_e (e_sts (vs := [_, _, _, _, _, _]) st 4 rfl rfl rfl rfl rfl Tryd.sizeOf26 rfl rfl (by first | (right; assumption) | (left; simp)) ?_)
  | refine vc_e (e_sts (vs := [_, _, _, _, _, _]) st 5 rfl rfl rfl rfl rfl Tryd.sizeOf26 rfl rfl (by first | (right; assumption) | (left; simp)) ?_)
  | refine vc_e (e_sts (vs := [_, _, _, _, _, _]) st 6 rfl rfl rfl rfl rfl Tryd.sizeOf26 rfl rfl (by first | (right; assumption) | (left; simp)) ?_)
  | refine vc_e (e_sts (vs := [_, _, _, _, _, _]) st 7 rfl rfl rfl rfl rfl Tryd.sizeOf26 rfl rfl (by first | (right; assumption) | (left; simp)) ?_)
  | refine vc_e (e_sts (vs := [_, _, _, _, _, _]) st 8 rfl rfl rfl rfl rfl Tryd.sizeOf26 rfl rfl (by first | (right; assumption) | (left; simp)) ?_)
  intro w st; dsimp only [setNth, wr] at st
  refine vc_y rfl rfl (y_as rfl) ?_
  first
  | refine vc_e (e_sts (vs := [_, _]) st 0 rfl rfl rfl rfl rfl Tryd.sizeOf29 rfl rfl (by first | (right; assumption) | (left; simp)) ?_)
  | refine vc_e (e_sts (vs := [_, _]) st 1 rfl rfl rfl rfl rfl Tryd.sizeOf29 rfl rfl (by first | (right; assumption) | (left; simp)) ?_)
  | refine vc_e (e_sts (vs := [_, _]) st 2 rfl rfl rfl rfl rfl Tryd.sizeOf29 rfl rfl (by first | (right; assumption) | (left; simp)) ?_)
  | refine vc_e (e_sts (vs := [_, _]) st 3 rfl rfl rfl rfl rfl Tryd.sizeOf29 rfl rfl (by first | (right; assumption) | (left; simp)) ?_)
  | refine vc_e (e_sts (vs := [_, _]) st 4 rfl rfl rfl rfl rfl Tryd.sizeOf29 rfl rfl (by first | (right; assumption) | (left; simp)) ?_)
  | refine vc_e (e_sts (vs := [_, _]) st 5 rfl rfl rfl rfl rfl Tryd.sizeOf29 rfl rfl (by first | (right; assumption) | (left; simp)) ?_)
  | refine vc_e (e_sts (vs := [_, _]) st 6 rfl rfl rfl rfl rfl Tryd.sizeOf29 rfl rfl (by first | (right; assumption) | (left; simp)) ?_)
  | refine vc_e (e_sts (vs := [_, _]) st 7 rfl rfl rfl rfl rfl Tryd.sizeOf29 rfl rfl (by first | (right; assumption) | (left; simp)) ?_)
  | refine vc_e (e_sts (vs := [_, _]) st 8 rfl rfl rfl rfl rfl Tryd.sizeOf29 rfl rfl (by first | (right; assumption) | (left; simp)) ?_)
  intro w st; dsimp only [setNth, wr] at st
  refine vc_end ?_
  refine vq_then ?_
  refine vc_keep [(0, _), (3, _), (4, _), (5, _)] ⟨rfl, rfl, rfl, rfl, trivial⟩ ?_
  refine vc_seq ?_
  refine vc_region ?_
  refine vc_y rfl rfl (y_mv rfl) ?_
  refine vc_e (e_call [_] rfl rfl Tryd.call9 rfl (rexprs_text s _) ?_)
  rintro _ w h
  rw [ExprPost, hR] at h
  dsimp only at h
  obtain ⟨cw, _, ⟨oq2, cq2, Sq2, rfl, hT, hN⟩, rfl⟩ := h
  replace st := st.pushR cw (holds_ex hT) hN.2
  refine vc_y rfl rfl (y_mv rfl) ?_
  refine vc_y rfl rfl (y_ext rfl rfl) ?_
  refine vc_y rfl rfl (y_ext rfl rfl) ?_
  refine vc_y rfl rfl (y_ext rfl rfl) ?_
  refine vc_e (e_al (l := [_, _, _, _, _, _]) st rfl rfl Tryd.zeroValue26 rfl ?_)
  intro b6 w hb6 st
  refine vc_e (e_al (l := [_, _]) st rfl rfl Tryd.zeroValue29 rfl ?_)
  intro b8 w hb8 st
  first
  | refine vc_e (e_sts (vs := [_, _, _, _, _, _]) st 0 rfl rfl rfl rfl rfl Tryd.sizeOf26 rfl rfl (by first | (right; assumption) | (left; simp)) ?_)
  | refine vc_e (e_sts (vs := [_, _, _, _, _, _]) st 1 rfl rfl rfl rfl rfl Tryd.sizeOf26 rfl rfl (by first | (right; assumption) | (left; simp)) ?_)
  | refine vc_e (e_sts (vs := [_, _, _, _, _, _]) st 2 rfl rfl rfl rfl rfl Tryd.sizeOf26 rfl rfl (by first | (right; assumption) | (left; simp)) ?_)
  | refine vc_e (e_sts (vs := [_, _, _, _, _, _]) st 3 rfl rfl rfl rfl rfl Tryd.sizeOf26 rfl rfl (by first | (right; assumption) | (left; simp)) ?_)
  | refine vc_e (e_sts (vs := [_, _, _, _, _, _]) st 4 rfl rfl rfl rfl rfl Tryd.sizeOf26 rfl rfl (by first | (right; assumption) | (left; simp)) ?_)
  | refine vc_e (e_sts (vs := [_, _, _, _, _, _]) st 5 rfl rfl rfl rfl rfl Tryd.sizeOf26 rfl rfl (by first | (right; assumption) | (left; simp)) ?_)
  | refine vc_e (e_sts (vs := [_, _, _, _, _, _]) st 6 rfl rfl rfl rfl rfl Tryd.sizeOf26 rfl rfl (by first | (right; assumption) | (left; simp)) ?_)
  | refine vc_e (e_sts (vs := [_, _, _, _, _, _]) st 7 rfl rfl rfl rfl rfl Tryd.sizeOf26 rfl rfl (by first | (right; assumption) | (left; simp)) ?_)
  | refine vc_e (e_sts (vs := [_, _, _, _, _, _]) st 8 rfl rfl rfl rfl rfl Tryd.sizeOf26 rfl rfl (by first | (right; assumption) | (left; simp)) ?_)
  intro w st; dsimp only [setNth, wr] at st
  refine vc_y rfl rfl (y_as rfl) ?_
  first
  | refine vc_e (e_sts (vs := [_, _]) st 0 rfl rfl rfl rfl rfl Tryd.sizeOf29 rfl rfl (by first | (right; assumption) | (left; simp)) ?_)
  | refine vc_e (e_sts (vs := [_, _]) st 1 rfl rfl rfl rfl rfl Tryd.sizeOf29 rfl rfl (by first | (right; assumption) | (left; simp)) ?_)
  | refine vc_e (e_sts (vs := [_, _]) st 2 rfl rfl rfl rfl rfl Tryd.sizeOf29 rfl rfl (by first | (right; assumption) | (left; simp)) ?_)
  | refine vc_e (e_sts (vs := [_, _]) st 3 rfl rfl rfl rfl rfl Tryd.sizeOf29 rfl rfl (by first | (right; assumption) | (left; simp)) ?_)
  | refine vc_e (e_sts (vs := [_, _]) st 4 rfl rfl rfl rfl rfl Tryd.sizeOf29 rfl rfl (by first | (right; assumption) | (left; simp)) ?_)
  | refine vc_e (e_sts (vs := [_, _]) st 5 rfl rfl rfl rfl rfl Tryd.sizeOf29 rfl rfl (by first | (right; assumption) | (left; simp)) ?_)
  | refine vc_e (e_sts (vs := [_, _]) st 6 rfl rfl rfl rfl rfl Tryd.sizeOf29 rfl rfl (by first | (right; assumption) | (left; simp)) ?_)
  | refine vc_e (e_sts (vs := [_, _]) st 7 rfl rfl rfl rfl rfl Tryd.sizeOf29 rfl rfl (by first | (right; assumption) | (left; simp)) ?_)
  | refine vc_e (e_sts (vs := [_, _]) st 8 rfl rfl rfl rfl rfl Tryd.sizeOf29 rfl rfl (by first | (right; assumption) | (left; simp)) ?_)
  intro w st; dsimp only [setNth, wr] at st
  refine vc_end ?_
  refine vq_then ?_
  refine vc_keep [(3, _), (4, _), (5, _), (6, _), (7, _), (8, _)] ⟨rfl, rfl, rfl, rfl, rfl, rfl, trivial⟩ ?_
  refine vc_seq ?_
  refine vc_region ?_
  refine vc_e (e_call [] rfl rfl Tryd.call10 rfl (lives_any _ (hsg.kept st.chg (by simp))) ?_)
  rintro _ w ⟨rfl, cw⟩
  replace st := st.call0 cw
  refine vc_e (e_mvb rfl rfl rfl ?_ ?_)
  · intro hg22
    try simp only [decide_eq_true_eq, decide_eq_false_iff_not, Bool.not_eq_true', Bool.not_eq_false', Bool.not_eq_true, Bool.not_eq_false, Int.not_lt, Int.not_le, Nat.not_lt, Nat.not_le, Bool.not_true, Bool.not_false, Bool.true_eq_false, Bool.false_eq_true] at hg22
    refine vc_y rfl rfl ((by first | exact y_lda (vs := [_, _, _, _, _, _]) st 0 rfl Tryd.isAgg26 Tryd.sizeOf26 rfl rfl | exact y_lda (vs := [_, _, _, _, _, _]) st 1 rfl Tryd.isAgg26 Tryd.sizeOf26 rfl rfl | exact y_lda (vs := [_, _, _, _, _, _]) st 2 rfl Tryd.isAgg26 Tryd.sizeOf26 rfl rfl | exact y_lda (vs := [_, _, _, _, _, _]) st 3 rfl Tryd.isAgg26 Tryd.sizeOf26 rfl rfl | exact y_lda (vs := [_, _, _, _, _, _]) st 4 rfl Tryd.isAgg26 Tryd.sizeOf26 rfl rfl | exact y_lda (vs := [_, _, _, _, _, _]) st 5 rfl Tryd.isAgg26 Tryd.sizeOf26 rfl rfl | exact y_lda (vs := [_, _, _, _, _, _]) st 6 rfl Tryd.isAgg26 Tryd.sizeOf26 rfl rfl | exact y_lda (vs := [_, _, _, _, _, _]) st 7 rfl Tryd.isAgg26 Tryd.sizeOf26 rfl rfl | exact y_lda (vs := [_, _, _, _, _, _]) st 8 rfl Tryd.isAgg26 Tryd.sizeOf26 rfl rfl)) ?_
    refine vc_y rfl rfl ((by first | exact y_lda (vs := [_, _, _, _, _, _]) st 0 rfl Tryd.isAgg26 Tryd.sizeOf26 rfl rfl | exact y_lda (vs := [_, _, _, _, _, _]) st 1 rfl Tryd.isAgg26 Tryd.sizeOf26 rfl rfl | exact y_lda (vs := [_, _, _, _, _, _]) st 2 rfl Tryd.isAgg26 Tryd.sizeOf26 rfl rfl | exact y_lda (vs := [_, _, _, _, _, _]) st 3 rfl Tryd.isAgg26 Tryd.sizeOf26 rfl rfl | exact y_lda (vs := [_, _, _, _, _, _]) st 4 rfl Tryd.isAgg26 Tryd.sizeOf26 rfl rfl | exact y_lda (vs := [_, _, _, _, _, _]) st 5 rfl Tryd.isAgg26 Tryd.sizeOf26 rfl rfl | exact y_lda (vs := [_, _, _, _, _, _]) st 6 rfl Tryd.isAgg26 Tryd.sizeOf26 rfl rfl | exact y_lda (vs := [_, _, _, _, _, _]) st 7 rfl Tryd.isAgg26 Tryd.sizeOf26 rfl rfl | exact y_lda (vs := [_, _, _, _, _, _]) st 8 rfl Tryd.isAgg26 Tryd.sizeOf26 rfl rfl)) ?_
    refine vc_e (e_call [_, _] rfl rfl Tryd.call11 rfl (rsameE_any (S := fun _ => True) x x _ _ _ _ _ (exR_rows (st.res (i := 5) rfl).1) (exR_rows (st.res (i := 2) rfl).1) (fun w h1 h2 => rexprsS_any _ x.kids rfl hok.kids x.kids _ _ _ _ w h1 h2)) ?_)
    rintro _ w ⟨rfl, cw⟩
    replace st := st.call0 cw
    refine vc_y rfl rfl (y_pickt rfl rfl) ?_
    refine vc_e (e_mvb rfl rfl rfl ?_ ?_)
    · intro hg27
      try simp only [decide_eq_true_eq, decide_eq_false_iff_not, Bool.not_eq_true', Bool.not_eq_false', Bool.not_eq_true, Bool.not_eq_false, Int.not_lt, Int.not_le, Nat.not_lt, Nat.not_le, Bool.not_true, Bool.not_false, Bool.true_eq_false, Bool.false_eq_true] at hg27
      refine vc_y rfl rfl ((by first | exact y_lda (vs := [_, _, _, _, _, _]) st 0 rfl Tryd.isAgg26 Tryd.sizeOf26 rfl rfl | exact y_lda (vs := [_, _, _, _, _, _]) st 1 rfl Tryd.isAgg26 Tryd.sizeOf26 rfl rfl | exact y_lda (vs := [_, _, _, _, _, _]) st 2 rfl Tryd.isAgg26 Tryd.sizeOf26 rfl rfl | exact y_lda (vs := [_, _, _, _, _, _]) st 3 rfl Tryd.isAgg26 Tryd.sizeOf26 rfl rfl | exact y_lda (vs := [_, _, _, _, _, _]) st 4 rfl Tryd.isAgg26 Tryd.sizeOf26 rfl rfl | exact y_lda (vs := [_, _, _, _, _, _]) st 5 rfl Tryd.isAgg26 Tryd.sizeOf26 rfl rfl | exact y_lda (vs := [_, _, _, _, _, _]) st 6 rfl Tryd.isAgg26 Tryd.sizeOf26 rfl rfl | exact y_lda (vs := [_, _, _, _, _, _]) st 7 rfl Tryd.isAgg26 Tryd.sizeOf26 rfl rfl | exact y_lda (vs := [_, _, _, _, _, _]) st 8 rfl Tryd.isAgg26 Tryd.sizeOf26 rfl rfl)) ?_
      refine vc_e (e_bs1 (l := [_, _, _, _, _, _]) st rfl rfl rfl rfl Tryd.underlying24 Tryd.sizeOf26 rfl rfl rfl Tryd.zeroValue26 ?_)
      intro b29 w hb29 st
      refine vc_y rfl rfl ((by first | exact y_lda (vs := [_, _, _, _, _, _]) st 0 rfl Tryd.isAgg26 Tryd.sizeOf26 rfl rfl | exact y_lda (vs := [_, _, _, _, _, _]) st 1 rfl Tryd.isAgg26 Tryd.sizeOf26 rfl rfl | exact y_lda (vs := [_, _, _, _, _, _]) st 2 rfl Tryd.isAgg26 Tryd.sizeOf26 rfl rfl | exact y_lda (vs := [_, _, _, _, _, _]) st 3 rfl Tryd.isAgg26 Tryd.sizeOf26 rfl rfl | exact y_lda (vs := [_, _, _, _, _, _]) st 4 rfl Tryd.isAgg26 Tryd.sizeOf26 rfl rfl | exact y_lda (vs := [_, _, _, _, _, _]) st 5 rfl Tryd.isAgg26 Tryd.sizeOf26 rfl rfl | exact y_lda (vs := [_, _, _, _, _, _]) st 6 rfl Tryd.isAgg26 Tryd.sizeOf26 rfl rfl | exact y_lda (vs := [_, _, _, _, _, _]) st 7 rfl Tryd.isAgg26 Tryd.sizeOf26 rfl rfl | exact y_lda (vs := [_, _, _, _, _, _]) st 8 rfl Tryd.isAgg26 Tryd.sizeOf26 rfl rfl)) ?_
      refine vc_e (e_bs1 (l := [_, _, _, _, _, _]) st rfl rfl rfl rfl Tryd.underlying24 Tryd.sizeOf26 rfl rfl rfl Tryd.zeroValue26 ?_)
      intro b31 w hb31 st
      refine vc_e (e_call [_, _] rfl rfl Tryd.call12 rfl (rplaces_any (S := fun _ => True) _ [x] rfl (okEs_one hok) [x] _ _ _ _ _ (exR_rows (ex_one (st.res (i := 1) rfl) (st.res (i := 7) rfl).1)) (exR_rows (ex_one (st.res (i := 0) rfl) (st.res (i := 4) rfl).1))) ?_)
      rintro _ w ⟨rfl, cw⟩
      replace st := st.call0 cw
      refine vc_y rfl rfl (y_pickt rfl rfl) ?_
      refine vc_e (e_mvb rfl rfl rfl ?_ ?_)
      · intro hg34
        try simp only [decide_eq_true_eq, decide_eq_false_iff_not, Bool.not_eq_true', Bool.not_eq_false', Bool.not_eq_true, Bool.not_eq_false, Int.not_lt, Int.not_le, Nat.not_lt, Nat.not_le, Bool.not_true, Bool.not_false, Bool.true_eq_false, Bool.false_eq_true] at hg34
        refine vc_y rfl rfl (y_mv rfl) ?_
        refine vc_y rfl rfl (y_mv rfl) ?_
        refine vc_y rfl rfl (y_eqi rfl rfl) ?_
        refine vc_y rfl rfl (y_pickt rfl rfl) ?_
        refine vc_e (e_mvb rfl rfl rfl ?_ ?_)
        · intro hg39
          try simp only [decide_eq_true_eq, decide_eq_false_iff_not, Bool.not_eq_true', Bool.not_eq_false', Bool.not_eq_true, Bool.not_eq_false, Int.not_lt, Int.not_le, Nat.not_lt, Nat.not_le, Bool.not_true, Bool.not_false, Bool.true_eq_false, Bool.false_eq_true] at hg39
          refine vc_y rfl rfl ((by first | exact y_lda (vs := [_, _]) st 0 rfl Tryd.isAgg29 Tryd.sizeOf29 rfl rfl | exact y_lda (vs := [_, _]) st 1 rfl Tryd.isAgg29 Tryd.sizeOf29 rfl rfl | exact y_lda (vs := [_, _]) st 2 rfl Tryd.isAgg29 Tryd.sizeOf29 rfl rfl | exact y_lda (vs := [_, _]) st 3 rfl Tryd.isAgg29 Tryd.sizeOf29 rfl rfl | exact y_lda (vs := [_, _]) st 4 rfl Tryd.isAgg29 Tryd.sizeOf29 rfl rfl | exact y_lda (vs := [_, _]) st 5 rfl Tryd.isAgg29 Tryd.sizeOf29 rfl rfl | exact y_lda (vs := [_, _]) st 6 rfl Tryd.isAgg29 Tryd.sizeOf29 rfl rfl | exact y_lda (vs := [_, _]) st 7 rfl Tryd.isAgg29 Tryd.sizeOf29 rfl rfl | exact y_lda (vs := [_, _]) st 8 rfl Tryd.isAgg29 Tryd.sizeOf29 rfl rfl)) ?_
          refine vc_y rfl rfl ((by first | exact y_lda (vs := [_, _]) st 0 rfl Tryd.isAgg29 Tryd.sizeOf29 rfl rfl | exact y_lda (vs := [_, _]) st 1 rfl Tryd.isAgg29 Tryd.sizeOf29 rfl rfl | exact y_lda (vs := [_, _]) st 2 rfl Tryd.isAgg29 Tryd.sizeOf29 rfl rfl | exact y_lda (vs := [_, _]) st 3 rfl Tryd.isAgg29 Tryd.sizeOf29 rfl rfl | exact y_lda (vs := [_, _]) st 4 rfl Tryd.isAgg29 Tryd.sizeOf29 rfl rfl | exact y_lda (vs := [_, _]) st 5 rfl Tryd.isAgg29 Tryd.sizeOf29 rfl rfl | exact y_lda (vs := [_, _]) st 6 rfl Tryd.isAgg29 Tryd.sizeOf29 rfl rfl | exact y_lda (vs := [_, _]) st 7 rfl Tryd.isAgg29 Tryd.sizeOf29 rfl rfl | exact y_lda (vs := [_, _]) st 8 rfl Tryd.isAgg29 Tryd.sizeOf29 rfl rfl)) ?_
          refine vc_y rfl rfl (y_eqF rfl rfl) ?_
          refine vc_y rfl rfl (y_pickt rfl rfl) ?_
          refine vc_y rfl rfl (y_as rfl) ?_
          refine vc_end ?_
          refine vq_then ?_
          refine vc_keep [(2, _)] ⟨rfl, trivial⟩ ?_
          refine vc_ret ?_
          refine vq_ret1 st (.inl rfl) Tryd.results3 (.tmp rfl) ?_
          refine ⟨_, rfl, ?_⟩
          exact ⟨by simp, st.chg⟩
        · intro hg39
          simp at hg39
      · intro hg34
        simp [zipA, plE_refl _ x rfl] at hg34
    · intro hg27
      rw [sameE_refl _ x rfl] at hg27; cases hg27
  · intro hg22
    simp at hg22

end Go.Proofs.YtggnfanphcaamaaDoor

