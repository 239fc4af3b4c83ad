/- A part of the proof: contracts of functions and plain laws; each theorem says its own conditions. -/
import Derived.Test.YtnmhlpnapgojjaaGreatDoorPrettyOneK15
import Derived.Test.YtnmhlpnapgojjaaGreatDoorPrettyOneK14
import Derived.Test.YtnmhlpnapgojjaaGreatDoorPrettyOneK11
import Derived.Test.YtnmhlpnapgojjaaGreatDoorPrettyOneK1
import Derived.Test.YtnmhlpnapgojjaaGreatDoorPrettyOneK9
set_option linter.unusedVariables false
set_option linter.unusedSimpArgs false
/- What is parsed may be written: expressions. -/
namespace ParS
open Sx LexS

structure TkOk (t : Tok) : Prop where
  name : t.kind = 1 → isName t.text = true
  word : t.word ≤ 9223372036854775807
  at_ : t.at_ ≤ 1048576
def TsOk (ts : List Tok) : Prop := (∀ t ∈ ts, TkOk t) ∧ ts.length ≤ 1048576
theorem TsOk.tail {ts : List Tok} (h : TsOk ts) : TsOk ts.tail := ⟨fun t ht => h.1 t (List.mem_of_mem_tail ht), by rw [List.length_tail]; have := h.2; omega⟩
theorem TsOk.here {ts : List Tok} (h : TsOk ts) : TkOk (ParS.here ts) := by
  cases ts with
  | nil => exact ⟨fun h => (by cases h), by simp [ParS.here, tok0], by simp [ParS.here, tok0]⟩
  | cons x l => exact h.1 x (.head _)
theorem i64_nat {n : Nat} (h : n ≤ 9223372036854775807) : i64 (n : Int) := ⟨by omega, by omega⟩
theorem i64_neg {n : Nat} (h : n ≤ 9223372036854775807) : i64 (-(n : Int)) := ⟨by omega, by omega⟩
theorem TkOk.ati {t : Tok} (h : TkOk t) : i64 (t.at_ : Int) := i64_nat (by have := h.at_; omega)
theorem rightE_mono : ∀ (n : Nat) (x : Ex), SizeOf.sizeOf x = n → ∀ d d', rightE x d = true → d' ≤ d → rightE x d' = true := by
  intro n
  refine Nat.strongRecOn n fun n ih => ?_
  intro x hn d d' hr hd
  obtain ⟨hle, hcase⟩ := rightE_iff.1 hr
  refine rightE_iff.2 ⟨by omega, ?_⟩
  have hkid : ∀ y, y ∈ x.kids → ∀ a b, rightE y a = true → b ≤ a → rightE y b = true := fun y hy a b h1 h2 => ih _ (by have := memE_lt hy; omega) y rfl a b h1 h2
  rcases hcase with h | h | h | h
  · exact .inl h
  · exact .inr (.inl h)
  · obtain ⟨h1, h2, h3, h4, y, hy, hry⟩ := h
    refine .inr (.inr (.inl ⟨h1, h2, h3, h4, y, hy, hkid y (by rw [hy]; exact .head _) _ _ hry ?_⟩))
    split <;> omega
  · obtain ⟨h1, h2, h3, h4, y, z, hyz, hry, hrz⟩ := h
    refine .inr (.inr (.inr ⟨h1, h2, h3, h4, y, z, hyz, hkid y (by rw [hyz]; exact .head _) _ _ hry ?_, hkid z (by rw [hyz]; exact .tail _ (.head _)) _ _ hrz ?_⟩))
    · split <;> omega
    · split <;> omega
theorem right_le {x : Ex} {d d' : Nat} (h : rightE x d = true) (hd : d' ≤ d) : rightE x d' = true := rightE_mono _ x rfl d d' h hd
/-- a tree that may be a part at the depth 'd' -/
structure Prt (x : Ex) (d : Nat) : Prop where
  ok : OkE x
  r : rightE x d = true
  par : x.k = 4 → rightE x (d + 1) = true
/-- how an operand's reader answers -/
def Reads (u : List Tok → PR Ex) (d : Nat) : Prop := ∀ r x r', TsOk r → u r = .ok (x, r') → Prt x d ∧ TsOk r'
theorem findO_two {s : List UInt8} {op : Nat} (h : findO s = some op) : twoOp (op : Int) = true := by
  unfold findO at h
  have h1 := List.find?_some h
  simp only [Bool.and_eq_true] at h1
  exact h1.1
theorem opT_two {t : Tok} {op : Nat} (h : opT t = some op) : twoOp (op : Int) = true := by
  unfold opT at h; split at h
  · exact findO_two h
  · cases h
theorem okE_bin {op : Nat} {a : Nat} {x y : Ex} (hop : twoOp (op : Int) = true) (ha : i64 (a : Int)) (hx : OkE x) (hy : OkE y) : OkE (binE op a x y) := by
  simp only [twoOp, decide_eq_true_eq] at hop
  refine .mk ⟨by decide, by decide⟩ ⟨by omega, by omega⟩ ⟨by decide, by decide⟩ ha (by simp) ?_
  intro j z hz
  match j, hz with
  | 0, hz => simp at hz; subst hz; exact hx
  | 1, hz => simp at hz; subst hz; exact hy
  | j + 2, hz => simp at hz
theorem loopE_right {u : List Tok → PR Ex} {d : Nat} (hd : d ≤ 64) (hu : Reads u d) : ∀ (n : Nat) (lv : Int) (x : Ex) (r : List Tok) (z : Ex) (r' : List Tok), TsOk r → loopE u n lv x r = .ok (z, r') →
    OkE x → rightE x d = true → (x.k = 4 → rightE x (d + 1) = true ∨ lv ≤ lvlO x.op) → (x.k = 4 → rightE x (d + 1) = true ∨ ∀ o, opT (here r) = some o → lvlO (o : Int) ≤ lvlO x.op) →
    OkE z ∧ rightE z d = true ∧ (z.k = 4 → rightE z (d + 1) = true ∨ lv ≤ lvlO z.op) ∧ (∀ o, opT (here r') = some o → lvlO (o : Int) < lv) ∧ TsOk r'
  | 0, lv, x, r, z, r', _, h, _, _, _, _ => by simp [loopE] at h
  | n + 1, lv, x, r, z, r', hr, h, h1, h2, h3, h4 => by
    simp only [loopE] at h
    cases hop : opT (here r) with
    | none =>
      rw [hop] at h; cases h
      exact ⟨h1, h2, h3, fun o ho => (by rw [hop] at ho; cases ho), hr⟩
    | some op =>
      rw [hop] at h
      simp only at h
      split at h
      · rename_i hlt
        cases h
        exact ⟨h1, h2, h3, fun o ho => (by rw [hop] at ho; cases ho; exact hlt), hr⟩
      · rename_i hge
        cases hy : u r.tail with
        | error f => rw [hy] at h; cases h
        | ok p =>
          obtain ⟨y, r1⟩ := p
          rw [hy] at h
          simp only at h
          obtain ⟨py, hr1⟩ := hu _ _ _ hr.tail hy
          cases hz : loopE u n (lvlO (op : Int) + 1) y r1 with
          | error f => rw [hz] at h; cases h
          | ok q =>
            obtain ⟨z1, r2⟩ := q
            rw [hz] at h
            simp only at h
            obtain ⟨a1, a2, a3, a4, a5⟩ := loopE_right hd hu n _ _ _ _ _ hr1 hz py.ok py.r (fun k => .inl (py.par k)) (fun k => .inl (py.par k))
            have htwo := opT_two hop
            have hleft : rightE x (if inn (op : Int) x false = true then d + 1 else d) = true := by
              split
              · rename_i hin
                unfold inn at hin
                simp only [Bool.and_eq_true, decide_eq_true_eq, Bool.false_and, Bool.or_false] at hin
                rcases h4 hin.1 with k | k
                · exact k
                · have := k op hop; omega
              · exact h2
            have hright : rightE z1 (if inn (op : Int) z1 true = true then d + 1 else d) = true := by
              split
              · rename_i hin
                unfold inn at hin
                simp only [Bool.and_eq_true, decide_eq_true_eq, Bool.true_and, Bool.or_eq_true] at hin
                rcases a3 hin.1 with k | k
                · exact k
                · rcases hin.2 with k2 | k2 <;> omega
              · exact a2
            have hb : rightE (binE op (here r).at_ x z1) d = true := rightE_iff.2 ⟨hd, .inr (.inr (.inr ⟨rfl, htwo, rfl, rfl, x, z1, rfl, hleft, hright⟩))⟩
            exact loopE_right hd hu n lv _ r2 z r' a5 h (okE_bin htwo hr.here.ati h1 a1) hb (fun _ => .inr (by show lv ≤ lvlO (op : Int); omega)) (fun _ => .inr fun o ho => by have := a4 o ho; show lvlO (o : Int) ≤ lvlO (op : Int); omega)
theorem exprW_right {u : List Tok → PR Ex} {d : Nat} (hd : d ≤ 64) (hg : Goes u) (hu : Reads u d) {r r' : List Tok} {x : Ex} (hr : TsOk r) (h : exprW u r = .ok (x, r')) : OkE x ∧ rightE x d = true ∧ TsOk r' := by
  rw [← climbE_expr u hg] at h
  unfold climbE at h
  cases hx : u r with
  | error f => rw [hx] at h; cases h
  | ok p =>
    obtain ⟨y, r1⟩ := p
    rw [hx] at h
    simp only at h
    obtain ⟨py, hr1⟩ := hu _ _ _ hr hx
    obtain ⟨a1, a2, a3, a4, a5⟩ := loopE_right hd hu _ _ _ _ _ _ hr1 h py.ok py.r (fun k => .inl (py.par k)) (fun k => .inl (py.par k))
    exact ⟨a1, a2, a5⟩
theorem leaf_right (e : Nat) {d : Nat} (hd : d ≤ 64) : Reads (leafP e) d := by
  intro r x r' hr h
  unfold leafP at h
  have hh := hr.here
  split at h
  · cases h
    refine ⟨⟨.mk ⟨by decide, by decide⟩ ⟨by decide, by decide⟩ (i64_nat hh.word) hh.ati (by simp) (fun j z hz => by simp at hz), rightE_iff.2 ⟨hd, .inl ⟨rfl, by simp [Ex.wd], rfl, rfl, rfl⟩⟩, fun k => by simp [Ex.k] at k⟩, hr.tail⟩
  · split at h
    · rename_i hk
      cases h
      refine ⟨⟨.mk ⟨by decide, by decide⟩ ⟨by decide, by decide⟩ ⟨by decide, by decide⟩ hh.ati (by simp) (fun j z hz => by simp at hz), rightE_iff.2 ⟨hd, .inr (.inl ⟨rfl, hh.name hk, rfl, rfl, rfl⟩)⟩, fun k => by simp [Ex.k] at k⟩, hr.tail⟩
    · cases h
theorem unary_right (e : Nat) : ∀ (m d : Nat), d + m = 64 → Reads (unaryP e m) d
  | 0, d, hd => by
    intro r x r' hr h
    simp only [unaryP] at h
    split at h
    · cases h
    · exact leaf_right e (by omega) r x r' hr h
  | m + 1, d, hd => by
    intro r x r' hr h
    simp only [unaryP] at h
    have ih := unary_right e m (d + 1) (by omega)
    split at h
    · split at h
      · cases hx : exprW (unaryP e m) r.tail with
        | error f => rw [hx] at h; cases h
        | ok p =>
          obtain ⟨y, r1⟩ := p
          rw [hx] at h
          simp only at h
          obtain ⟨a1, a2, a3⟩ := exprW_right (by omega) (unary_goes e m) ih hr.tail hx
          cases hw : want e [41] r1 with
          | error f => rw [hw] at h; cases h
          | ok r2 =>
            rw [hw] at h
            cases h
            obtain ⟨_, rfl⟩ := want_ok hw
            exact ⟨⟨a1, right_le a2 (by omega), fun _ => a2⟩, a3.tail⟩
      · cases hx : unaryP e m r.tail with
        | error f => rw [hx] at h; cases h
        | ok p =>
          obtain ⟨y, r1⟩ := p
          rw [hx] at h
          cases h
          obtain ⟨py, hr1⟩ := ih _ _ _ hr.tail hx
          have hop : oneOp (if (here r).text = [33] then 18 else 17) = true := by split <;> decide
          refine ⟨⟨.mk ⟨by decide, by decide⟩ (by split <;> exact ⟨by decide, by decide⟩) ⟨by decide, by decide⟩ hr.here.ati (by simp) (fun j z hz => ?_), rightE_iff.2 ⟨by omega, .inr (.inr (.inl ⟨rfl, hop, rfl, rfl, y, rfl, ?_⟩))⟩, fun k => by simp [Ex.k] at k⟩, hr1⟩
          · match j, hz with
            | 0, hz => simp at hz; subst hz; exact py.ok
            | j + 1, hz => simp at hz
          · split
            · rename_i hk; exact py.par hk
            · exact py.r
    · exact leaf_right e (by omega) r x r' hr h
theorem expr_right {e : Nat} {r r' : List Tok} {x : Ex} (hr : TsOk r) (h : exprP e 64 r = .ok (x, r')) : OkE x ∧ rightE x 0 = true ∧ TsOk r' := exprW_right (by omega) (unary_goes e 64) (unary_right e 64 0 rfl) hr h
end ParS


/- What is parsed may be written: statements, programs. -/
namespace ParS
open Sx LexS

def SReads (st : List Tok → PR Sm) (d : Nat) : Prop := ∀ r s r', TsOk r → st r = .ok (s, r') → OkS s ∧ rightS s d = true ∧ TsOk r'
def BReads (bk : List Tok → PR (List Sm)) (d : Nat) : Prop := ∀ r l r', TsOk r → bk r = .ok (l, r') → OkSs l ∧ (d < 64 ∧ rightSs l (d + 1) = true) ∧ TsOk r'
section
variable {e : Nat} (he : e ≤ 1048576)
theorem want_ts {s : List UInt8} {r r' : List Tok} (hr : TsOk r) (h : want e s r = .ok r') : TsOk r' := by obtain ⟨_, rfl⟩ := want_ok h; exact hr.tail
theorem name_ts {r r' : List Tok} {t : Tok} (hr : TsOk r) (h : nameP e r = .ok (t, r')) : isName t.text = true ∧ i64 (t.at_ : Int) ∧ TsOk r' := by
  unfold nameP at h; split at h
  · rename_i hk; cases h; exact ⟨hr.here.name hk, hr.here.ati, hr.tail⟩
  · cases h
include he in
theorem atT_i64 {r : List Tok} (hr : TsOk r) : i64 (atT e r : Int) := by
  cases r with
  | nil => exact i64_nat (by show e ≤ _; omega)
  | cons t l => exact TkOk.ati (hr.1 t (.head _))
theorem cond_ts {r r' : List Tok} {x : Ex} (hr : TsOk r) (h : condP e r = .ok (x, r')) : OkE x ∧ rightE x 0 = true ∧ TsOk r' := by
  unfold condP at h
  cases h1 : want e [40] r with
  | error f => rw [h1] at h; cases h
  | ok r1 =>
    rw [h1] at h; simp only at h
    have k1 := want_ts hr h1
    cases h2 : exprP e 64 r1 with
    | error f => rw [h2] at h; cases h
    | ok p =>
      obtain ⟨y, r2⟩ := p
      rw [h2] at h; simp only at h
      obtain ⟨a1, a2, k2⟩ := expr_right k1 h2
      cases h3 : want e [41] r2 with
      | error f => rw [h3] at h; cases h
      | ok r3 => rw [h3] at h; cases h; exact ⟨a1, a2, want_ts k2 h3⟩
theorem semi_ts {r r' : List Tok} {x : Ex} (hr : TsOk r) (h : exprSemi e r = .ok (x, r')) : OkE x ∧ rightE x 0 = true ∧ TsOk r' := by
  unfold exprSemi at h
  cases h2 : exprP e 64 r with
  | error f => rw [h2] at h; cases h
  | ok p =>
    obtain ⟨y, r2⟩ := p
    rw [h2] at h; simp only at h
    obtain ⟨a1, a2, k2⟩ := expr_right hr h2
    cases h3 : want e [59] r2 with
    | error f => rw [h3] at h; cases h
    | ok r3 => rw [h3] at h; cases h; exact ⟨a1, a2, want_ts k2 h3⟩
theorem swap_ts {r r' : List Tok} {o : List UInt8} {x : Ex} (hr : TsOk r) (h : swapP e r = .ok ((o, x), r')) : isName o = true ∧ OkE x ∧ rightE x 0 = true ∧ TsOk r' := by
  unfold swapP at h
  cases h1 : want e [40] r with
  | error f => rw [h1] at h; cases h
  | ok r1 =>
    rw [h1] at h; simp only at h
    have k1 := want_ts hr h1
    cases hn : nameP e r1 with
    | error f => rw [hn] at h; cases h
    | ok p =>
      obtain ⟨t, r2⟩ := p
      rw [hn] at h; simp only at h
      obtain ⟨n1, _, k2⟩ := name_ts k1 hn
      cases h3 : want e [44] r2 with
      | error f => rw [h3] at h; cases h
      | ok r3 =>
        rw [h3] at h; simp only at h
        have k3 := want_ts k2 h3
        cases h4 : exprP e 64 r3 with
        | error f => rw [h4] at h; cases h
        | ok p =>
          obtain ⟨y, r4⟩ := p
          rw [h4] at h; simp only at h
          obtain ⟨a1, a2, k4⟩ := expr_right k3 h4
          cases h5 : want e [41] r4 with
          | error f => rw [h5] at h; cases h
          | ok r5 =>
            rw [h5] at h; simp only at h
            have k5 := want_ts k4 h5
            cases h6 : want e [59] r5 with
            | error f => rw [h6] at h; cases h
            | ok r6 => rw [h6] at h; cases h; exact ⟨n1, a1, a2, want_ts k5 h6⟩
theorem okEs_one {x : Ex} (h : OkE x) : OkEs [x] := ⟨by simp, fun j y hy => by
  match j, hy with
  | 0, hy => simp at hy; subst hy; exact h
  | j + 1, hy => simp at hy⟩
theorem okSs_nil : OkSs [] := ⟨by simp, fun j y hy => by simp at hy⟩
theorem okEs_nil : OkEs [] := ⟨by simp, fun j y hy => by simp at hy⟩
theorem okS_mk {k : Int} {nm other : List UInt8} {es : List Ex} {body els : List Sm} {a : Int} (hk : u8 k) (ha : i64 a) (h1 : OkEs es) (h2 : OkSs body) (h3 : OkSs els) : OkS (.mk k nm other es body els a) := .mk hk ha h1 h2.1 h2.2 h3.1 h3.2
include he in
theorem assign_ts {r r0 r' : List Tok} {s : Sm} {d : Nat} (hr0 : TsOk r0) (hr : TsOk r) (h : assignP e (atT e r0) r = .ok (s, r')) : OkS s ∧ rightS s d = true ∧ TsOk r' := by
  have ha := atT_i64 he hr0
  unfold assignP at h
  cases hn : nameP e r with
  | error f => rw [hn] at h; cases h
  | ok p =>
    obtain ⟨t, r1⟩ := p
    rw [hn] at h; simp only at h
    obtain ⟨n1, _, k1⟩ := name_ts hr hn
    cases h2 : want e [61] r1 with
    | error f => rw [h2] at h; cases h
    | ok r2 =>
      rw [h2] at h; simp only at h
      have k2 := want_ts k1 h2
      split at h
      · cases h3 : swapP e r2.tail with
        | error f => rw [h3] at h; cases h
        | ok p =>
          obtain ⟨⟨o, x⟩, r3⟩ := p
          rw [h3] at h; simp only at h
          cases h
          obtain ⟨n2, a1, a2, k3⟩ := swap_ts k2.tail h3
          refine ⟨okS_mk ⟨by decide, by decide⟩ ha (okEs_one a1) okSs_nil okSs_nil, ?_, k3⟩
          rw [rightS]; simp [hasN, hasE, hasB, nmOk, rightX, rightSs, n1, n2, a2]
      · cases h3 : exprSemi e r2 with
        | error f => rw [h3] at h; cases h
        | ok p =>
          obtain ⟨x, r3⟩ := p
          rw [h3] at h; simp only at h
          cases h
          obtain ⟨a1, a2, k3⟩ := semi_ts k2 h3
          refine ⟨okS_mk ⟨by decide, by decide⟩ ha (okEs_one a1) okSs_nil okSs_nil, ?_, k3⟩
          rw [rightS]; simp [hasN, hasE, hasB, nmOk, rightX, rightSs, n1, a2]
include he in
theorem stmtW_right {bk : List Tok → PR (List Sm)} {d : Nat} (hb : BReads bk d) : SReads (stmtW e bk) d := by
  intro r s r' hr h
  have ha := atT_i64 he hr
  unfold stmtW at h
  split at h
  · cases h1 : condP e r.tail with
    | error f => rw [h1] at h; cases h
    | ok p =>
      obtain ⟨x, r1⟩ := p
      rw [h1] at h; simp only at h
      obtain ⟨a1, a2, k1⟩ := cond_ts hr.tail h1
      cases h2 : bk r1 with
      | error f => rw [h2] at h; cases h
      | ok p =>
        obtain ⟨b, r2⟩ := p
        rw [h2] at h; simp only at h
        obtain ⟨b1, b2, k2⟩ := hb _ _ _ k1 h2
        split at h
        · cases h3 : bk r2.tail with
          | error f => rw [h3] at h; cases h
          | ok p =>
            obtain ⟨l, r3⟩ := p
            rw [h3] at h; simp only at h
            cases h
            obtain ⟨c1, c2, k3⟩ := hb _ _ _ k2.tail h3
            refine ⟨okS_mk ⟨by decide, by decide⟩ ha (okEs_one a1) b1 c1, ?_, k3⟩
            rw [rightS]; simp [hasN, hasE, hasB, nmOk, rightX, a2, b2.1, b2.2, c2.2]
        · cases h
          refine ⟨okS_mk ⟨by decide, by decide⟩ ha (okEs_one a1) b1 okSs_nil, ?_, k2⟩
          rw [rightS]; simp [hasN, hasE, hasB, nmOk, rightX, rightSs, a2, b2.1, b2.2]
  · split at h
    · cases h1 : condP e r.tail with
      | error f => rw [h1] at h; cases h
      | ok p =>
        obtain ⟨x, r1⟩ := p
        rw [h1] at h; simp only at h
        obtain ⟨a1, a2, k1⟩ := cond_ts hr.tail h1
        cases h2 : bk r1 with
        | error f => rw [h2] at h; cases h
        | ok p =>
          obtain ⟨b, r2⟩ := p
          rw [h2] at h; simp only at h
          cases h
          obtain ⟨b1, b2, k2⟩ := hb _ _ _ k1 h2
          refine ⟨okS_mk ⟨by decide, by decide⟩ ha (okEs_one a1) b1 okSs_nil, ?_, k2⟩
          rw [rightS]; simp [hasN, hasE, hasB, nmOk, rightX, rightSs, a2, b2.1, b2.2]
    · split at h
      · cases h1 : nameP e r.tail with
        | error f => rw [h1] at h; cases h
        | ok p =>
          obtain ⟨t, r1⟩ := p
          rw [h1] at h; simp only at h
          obtain ⟨n1, _, k1⟩ := name_ts hr.tail h1
          cases h2 : bk r1 with
          | error f => rw [h2] at h; cases h
          | ok p =>
            obtain ⟨b, r2⟩ := p
            rw [h2] at h; simp only at h
            cases h
            obtain ⟨b1, b2, k2⟩ := hb _ _ _ k1 h2
            refine ⟨okS_mk ⟨by decide, by decide⟩ ha okEs_nil b1 okSs_nil, ?_, k2⟩
            rw [rightS]; simp [hasN, hasE, hasB, nmOk, rightX, rightSs, n1, b2.1, b2.2]
      · split at h
        · cases h1 : exprSemi e r.tail with
          | error f => rw [h1] at h; cases h
          | ok p =>
            obtain ⟨x, r1⟩ := p
            rw [h1] at h; simp only at h
            cases h
            obtain ⟨a1, a2, k1⟩ := semi_ts hr.tail h1
            refine ⟨okS_mk ⟨by decide, by decide⟩ ha (okEs_one a1) okSs_nil okSs_nil, ?_, k1⟩
            rw [rightS]; simp [hasN, hasE, hasB, nmOk, rightX, rightSs, a2]
        · split at h
          · cases h1 : want e [59] r.tail with
            | error f => rw [h1] at h; cases h
            | ok r1 =>
              rw [h1] at h; simp only at h
              cases h
              refine ⟨okS_mk ⟨by decide, by decide⟩ ha okEs_nil okSs_nil okSs_nil, ?_, want_ts hr.tail h1⟩
              rw [rightS]; simp [hasN, hasE, hasB, nmOk, rightX, rightSs]
          · exact assign_ts he hr hr h
theorem restW_right {st : List Tok → PR Sm} {d : Nat} (hs : SReads st d) : ∀ (n : Nat) (r : List Tok) (l : List Sm) (r' : List Tok), TsOk r → restW st n r = .ok (l, r') → (l.length < n ∧ ∀ x ∈ l, OkS x) ∧ rightSs l d = true ∧ TsOk r'
  | 0, r, l, r', _, h => by simp [restW] at h
  | n + 1, r, l, r', hr, h => by
    simp only [restW] at h
    split at h
    · cases h; exact ⟨⟨by simp, by simp⟩, rfl, hr.tail⟩
    · cases h1 : st r with
      | error f => rw [h1] at h; cases h
      | ok p =>
        obtain ⟨s, r1⟩ := p
        rw [h1] at h; simp only at h
        obtain ⟨a1, a2, k1⟩ := hs _ _ _ hr h1
        cases h2 : restW st n r1 with
        | error f => rw [h2] at h; cases h
        | ok p =>
          obtain ⟨l2, r2⟩ := p
          rw [h2] at h; simp only at h
          cases h
          obtain ⟨⟨b1, b2⟩, b3, k2⟩ := restW_right hs n r1 l2 _ k1 h2
          refine ⟨⟨by simp; omega, fun x hx => ?_⟩, by rw [rightSs, a2, b3]; rfl, k2⟩
          rcases List.mem_cons.1 hx with rfl | hx
          · exact a1
          · exact b2 x hx
theorem okSs_of {l : List Sm} (h : l.length ≤ 1099511627776) (hx : ∀ x ∈ l, OkS x) : OkSs l := ⟨h, fun j x hj => hx x (List.mem_of_getElem? hj)⟩
include he in
theorem stmt_right : ∀ (m d : Nat), d + m = 64 → SReads (stmtP e m) d
  | 0, d, hd => by
    intro r s r' hr h
    rw [stmtP] at h
    refine stmtW_right he (bk := fun r => if isT [123] r = true then fail e 3 r else fail e 2 r) (fun r l r' _ h => ?_) r s r' hr h
    dsimp only at h
    split at h <;> cases h
  | m + 1, d, hd => by
    intro r s r' hr h
    rw [stmtP] at h
    refine stmtW_right he (bk := fun r => match want e [123] r with | .error f => .error f | .ok r1 => restW (stmtP e m) (r1.length + 1) r1) (fun r l r' hr h => ?_) r s r' hr h
    dsimp only at h
    cases h1 : want e [123] r with
    | error f => rw [h1] at h; cases h
    | ok r1 =>
      rw [h1] at h; simp only at h
      have k1 := want_ts hr h1
      obtain ⟨⟨a1, a2⟩, a3, k2⟩ := restW_right (stmt_right m (d + 1) (by omega)) _ _ _ _ k1 h
      exact ⟨okSs_of (by have := k1.2; omega) a2, ⟨by omega, a3⟩, k2⟩
include he in
theorem rest_right {r r' : List Tok} {l : List Sm} (hr : TsOk r) (h : restP e 63 r = .ok (l, r')) : OkSs l ∧ rightSs l 1 = true ∧ TsOk r' := by
  obtain ⟨⟨a1, a2⟩, a3, k⟩ := restW_right (stmt_right he 63 1 rfl) _ _ _ _ hr h
  exact ⟨okSs_of (by have := hr.2; omega) a2, a3, k⟩

/-! ### programs -/
def DOk (b : Bool) (x : Dc) : Prop := dcOk b x = true ∧ i64 x.wd ∧ i64 x.a
theorem decl_right {r r' : List Tok} {x : Dc} (hr : TsOk r) (h : declP e r = .ok (x, r')) : DOk false x ∧ TsOk r' := by
  unfold declP at h
  cases hn : nameP e r with
  | error f => rw [hn] at h; cases h
  | ok p =>
    obtain ⟨t, r1⟩ := p
    rw [hn] at h; simp only at h
    cases h
    obtain ⟨n1, n2, k⟩ := name_ts hr hn
    exact ⟨⟨by simp [dcOk, n1], i64_nat (n := 0) (by omega), n2⟩, k⟩
theorem init_right {r r' : List Tok} {x : Dc} (hr : TsOk r) (h : initP e r = .ok (x, r')) : DOk true x ∧ TsOk r' := by
  unfold initP at h
  cases hn : nameP e r with
  | error f => rw [hn] at h; cases h
  | ok p =>
    obtain ⟨t, r1⟩ := p
    rw [hn] at h; simp only at h
    obtain ⟨n1, n2, k⟩ := name_ts hr hn
    split at h
    · obtain ⟨R, hR⟩ : ∃ R, R = (if isT [45] r1.tail = true then r1.tail.tail else r1.tail) := ⟨_, rfl⟩
      have kR : TsOk R := by
        rw [hR]; split
        · exact k.tail.tail
        · exact k.tail
      rw [← hR] at h
      split at h
      · cases h
      · rename_i y r2 hw
        cases h
        unfold wordP at hw
        split at hw
        · cases hw
          have hh := kR.here.word
          refine ⟨⟨?_, ?_, n2⟩, kR.tail⟩
          · simp only [dcOk, n1, Bool.true_and, if_true, decide_eq_true_eq, ne_eq]; split <;> omega
          · show i64 (if _ then _ else _)
            split
            · exact i64_neg hh
            · exact i64_nat hh
        · cases hw
    · cases h
      exact ⟨⟨by simp [dcOk, n1], i64_nat (n := 0) (by omega), n2⟩, k⟩
theorem decl_len {r r' : List Tok} {x : Dc} (h : declP e r = .ok (x, r')) : r'.length < r.length := by
  unfold declP nameP at h
  split at h
  · cases h
  · rename_i t r1 hn
    split at hn
    · rename_i hk
      cases hn; cases h
      exact tail_lt (kind_ne hk (by decide))
    · cases hn
theorem init_len {r r' : List Tok} {x : Dc} (h : initP e r = .ok (x, r')) : r'.length < r.length := by
  unfold initP nameP at h
  split at h
  · cases h
  · rename_i t r1 hn
    split at hn
    · rename_i hk
      cases hn
      have h0 := tail_lt (kind_ne hk (by decide))
      split at h
      · obtain ⟨R, hR⟩ : ∃ R, R = (if isT [45] r.tail.tail = true then r.tail.tail.tail else r.tail.tail) := ⟨_, rfl⟩
        have kR : R.length ≤ r.tail.length := by rw [hR]; split <;> simp only [List.length_tail] <;> omega
        rw [← hR] at h
        unfold wordP at h
        split at h
        · cases h
        · rename_i y r2 hw
          split at hw
          · cases hw; cases h
            have : R.tail.length ≤ R.length := by simp
            omega
          · cases hw
      · cases h; exact h0
    · cases hn
theorem list_right {one : List Tok → PR Dc} {b : Bool} (ho : ∀ r x r', TsOk r → one r = .ok (x, r') → DOk b x ∧ TsOk r') (hl : ∀ r x r', one r = .ok (x, r') → r'.length < r.length) : ∀ (n : Nat) (r : List Tok) (l : List Dc) (r' : List Tok), TsOk r → listP e one n r = .ok (l, r') → (∀ x ∈ l, DOk b x) ∧ l.length + r'.length ≤ r.length ∧ TsOk r'
  | 0, r, l, r', _, h => by simp [listP] at h
  | n + 1, r, l, r', hr, h => by
    simp only [listP] at h
    cases h1 : one r with
    | error f => rw [h1] at h; cases h
    | ok p =>
      obtain ⟨x, r1⟩ := p
      rw [h1] at h; simp only at h
      obtain ⟨a1, k1⟩ := ho _ _ _ hr h1
      have g1 := hl _ _ _ h1
      split at h
      · rename_i hc
        cases h2 : listP e one n r1.tail with
        | error f => rw [h2] at h; cases h
        | ok p =>
          obtain ⟨l2, r2⟩ := p
          rw [h2] at h; simp only at h
          cases h
          obtain ⟨b1, b2, k2⟩ := list_right ho hl n _ _ _ k1.tail h2
          have := tail_lt (isT_ne hc)
          refine ⟨fun y hy => ?_, by simp only [List.length_cons]; omega, k2⟩
          rcases List.mem_cons.1 hy with rfl | hy
          · exact a1
          · exact b1 y hy
      · cases h2 : want e [59] r1 with
        | error f => rw [h2] at h; cases h
        | ok r2 =>
          rw [h2] at h; simp only at h
          cases h
          obtain ⟨hc, rfl⟩ := want_ok h2
          have := tail_lt (isT_ne hc)
          refine ⟨fun y hy => ?_, by simp only [List.length_cons, List.length_nil]; omega, k1.tail⟩
          simp only [List.mem_cons, List.not_mem_nil, or_false] at hy
          subst hy; exact a1
theorem okD_of {b : Bool} {l : List Dc} (h : l.length ≤ 1099511627776) (hx : ∀ x ∈ l, DOk b x) : OkD l := ⟨h, fun j x hj => (hx x (List.mem_of_getElem? hj)).2⟩
theorem all_of {b : Bool} {l : List Dc} (hx : ∀ x ∈ l, DOk b x) : l.all (dcOk b) = true := List.all_eq_true.2 fun x h => (hx x h).1
theorem locals_right : ∀ (n : Nat) (r : List Tok) (l : List Dc) (r' : List Tok), TsOk r → localsP e n r = .ok (l, r') → (∀ x ∈ l, DOk false x) ∧ l.length + r'.length ≤ r.length ∧ TsOk r'
  | 0, r, l, r', _, h => by simp [localsP] at h
  | n + 1, r, l, r', hr, h => by
    simp only [localsP] at h
    split at h
    · rename_i hc
      have g0 := tail_lt (isT_ne hc)
      cases h1 : listP e (declP e) (r.length + 1) r.tail with
      | error f => rw [h1] at h; cases h
      | ok p =>
        obtain ⟨l1, r1⟩ := p
        rw [h1] at h; simp only at h
        obtain ⟨a1, a2, k1⟩ := list_right (fun _ _ _ h1 h2 => decl_right h1 h2) (fun _ _ _ h => decl_len h) _ _ _ _ hr.tail h1
        cases h2 : localsP e n r1 with
        | error f => rw [h2] at h; cases h
        | ok p =>
          obtain ⟨l2, r2⟩ := p
          rw [h2] at h; simp only at h
          cases h
          obtain ⟨b1, b2, k2⟩ := locals_right n _ _ _ k1 h2
          refine ⟨fun y hy => ?_, by simp only [List.length_append]; omega, k2⟩
          rcases List.mem_append.1 hy with hy | hy
          · exact a1 y hy
          · exact b1 y hy
    · cases h
      exact ⟨by simp, by simp, hr⟩
def TOk (t : Th) : Prop := thOk t = true ∧ OkD t.locals ∧ OkSs t.body ∧ i64 t.a
include he in
theorem thread_right {r r' : List Tok} {t : Th} (hr : TsOk r) (h : threadP e r = .ok (t, r')) : TOk t ∧ TsOk r' := by
  unfold threadP at h
  cases hn : nameP e r with
  | error f => rw [hn] at h; cases h
  | ok p =>
    obtain ⟨t0, r1⟩ := p
    rw [hn] at h; simp only at h
    obtain ⟨n1, n2, k1⟩ := name_ts hr hn
    cases h2 : want e [123] r1 with
    | error f => rw [h2] at h; cases h
    | ok r2 =>
      rw [h2] at h; simp only at h
      have k2 := want_ts k1 h2
      cases h3 : localsP e (r2.length + 1) r2 with
      | error f => rw [h3] at h; cases h
      | ok p =>
        obtain ⟨l, r3⟩ := p
        rw [h3] at h; simp only at h
        obtain ⟨a1, a2, k3⟩ := locals_right _ _ _ _ k2 h3
        cases h4 : restP e 63 r3 with
        | error f => rw [h4] at h; cases h
        | ok p =>
          obtain ⟨b, r4⟩ := p
          rw [h4] at h; simp only at h
          cases h
          obtain ⟨b1, b2, k4⟩ := rest_right he k3 h4
          refine ⟨⟨?_, okD_of (by have := k2.2; show l.length ≤ _; omega) a1, b1, n2⟩, k4⟩
          simp [thOk, n1, all_of a1, b2]
include he in
theorem threads_right : ∀ (n : Nat) (r : List Tok) (l : List Th) (r' : List Tok), TsOk r → threadsP e n r = .ok (l, r') → (∀ x ∈ l, TOk x) ∧ l.length < n ∧ TsOk r'
  | 0, r, l, r', _, h => by simp [threadsP] at h
  | n + 1, r, l, r', hr, h => by
    simp only [threadsP] at h
    split at h
    · cases h1 : threadP e r.tail with
      | error f => rw [h1] at h; cases h
      | ok p =>
        obtain ⟨t, r1⟩ := p
        rw [h1] at h; simp only at h
        obtain ⟨a1, k1⟩ := thread_right he hr.tail h1
        cases h2 : threadsP e n r1 with
        | error f => rw [h2] at h; cases h
        | ok p =>
          obtain ⟨l2, r2⟩ := p
          rw [h2] at h; simp only at h
          cases h
          obtain ⟨b1, b2, k2⟩ := threads_right n _ _ _ k1 h2
          refine ⟨fun y hy => ?_, by simp only [List.length_cons]; omega, k2⟩
          rcases List.mem_cons.1 hy with rfl | hy
          · exact a1
          · exact b1 y hy
    · cases h
      exact ⟨by simp, by simp, hr⟩
include he in
theorem prog_right : ∀ (n : Nat) (r : List Tok) (p : Pg), TsOk r → progP e n r = .ok p → (∀ x ∈ p.shared, DOk true x) ∧ (∀ x ∈ p.locks, DOk false x) ∧ (∀ x ∈ p.threads, TOk x) ∧ p.shared.length + p.locks.length ≤ r.length ∧ p.threads.length ≤ 1048576
  | 0, r, p, _, h => by simp [progP] at h
  | n + 1, r, p, hr, h => by
    simp only [progP] at h
    split at h
    · rename_i hc
      have g0 := tail_lt (isT_ne hc)
      cases h1 : listP e (initP e) (r.length + 1) r.tail with
      | error f => rw [h1] at h; cases h
      | ok q =>
        obtain ⟨l, r1⟩ := q
        rw [h1] at h; simp only at h
        obtain ⟨a1, a2, k1⟩ := list_right (fun _ _ _ h1 h2 => init_right h1 h2) (fun _ _ _ h => init_len h) _ _ _ _ hr.tail h1
        cases h2 : progP e n r1 with
        | error f => rw [h2] at h; cases h
        | ok p2 =>
          rw [h2] at h; simp only at h
          cases h
          obtain ⟨b1, b2, b3, b4, b5⟩ := prog_right n _ _ k1 h2
          refine ⟨fun y hy => ?_, b2, b3, by simp only [List.length_append]; omega, b5⟩
          rcases List.mem_append.1 hy with hy | hy
          · exact a1 y hy
          · exact b1 y hy
    · split at h
      · rename_i hc
        have g0 := tail_lt (isT_ne hc)
        cases h1 : listP e (declP e) (r.length + 1) r.tail with
        | error f => rw [h1] at h; cases h
        | ok q =>
          obtain ⟨l, r1⟩ := q
          rw [h1] at h; simp only at h
          obtain ⟨a1, a2, k1⟩ := list_right (fun _ _ _ h1 h2 => decl_right h1 h2) (fun _ _ _ h => decl_len h) _ _ _ _ hr.tail h1
          cases h2 : progP e n r1 with
          | error f => rw [h2] at h; cases h
          | ok p2 =>
            rw [h2] at h; simp only at h
            cases h
            obtain ⟨b1, b2, b3, b4, b5⟩ := prog_right n _ _ k1 h2
            refine ⟨b1, fun y hy => ?_, b3, by simp only [List.length_append]; omega, b5⟩
            rcases List.mem_append.1 hy with hy | hy
            · exact a1 y hy
            · exact b2 y hy
      · cases h1 : threadsP e (r.length + 1) r with
        | error f => rw [h1] at h; cases h
        | ok q =>
          obtain ⟨l, r1⟩ := q
          rw [h1] at h; simp only at h
          obtain ⟨a1, a2, k1⟩ := threads_right he _ _ _ _ hr h1
          split at h
          · cases h
            exact ⟨by simp, by simp, a1, by simp, by have := hr.2; show l.length ≤ _; omega⟩
          · cases h
end
theorem pg_of {p : Pg} (h1 : ∀ x ∈ p.shared, DOk true x) (h2 : ∀ x ∈ p.locks, DOk false x) (h3 : ∀ x ∈ p.threads, TOk x) (h4 : p.shared.length + p.locks.length ≤ 1048576) (h5 : p.threads.length ≤ 1048576) : pgOk p = true ∧ OkP p := by
  refine ⟨?_, okD_of (by omega) h1, okD_of (by omega) h2, by omega, fun j t hj => (h3 t (List.mem_of_getElem? hj)).2⟩
  unfold pgOk
  rw [all_of h1, all_of h2, List.all_eq_true.2 fun x h => (h3 x h).1]; rfl
theorem front_ts {s : List UInt8} (hs : s.length ≤ 65536) : TsOk (front s).1 := by
  obtain ⟨h1, h2⟩ := front_ok (s := s) (T := (front s).1) (f := (front s).2) rfl
  exact ⟨fun t ht => ⟨(h2 t ht).1, (h2 t ht).2.1, by have := (h2 t ht).2.2; omega⟩, by omega⟩
/-- a program that is parsed may be printed -/
theorem parse_right {s : List UInt8} {p : Pg} {a b : Nat} (h : parseRes s = (p, 0, a, b)) : pgOk p = true ∧ OkP p := by
  unfold parseRes at h
  split at h
  · cases h
  · rename_i hs
    split at h
    · cases h
    · have hts := front_ts (s := s) (by omega)
      split at h
      · cases h
      · rename_i q hq
        cases h
        obtain ⟨h1, h2, h3, h4, h5⟩ := prog_right (e := s.length) (by omega) _ _ _ hts hq
        have := hts.2
        exact pg_of h1 h2 h3 (by omega) h5
end ParS


/- What is read of a tree that lies in rows. -/
namespace Sx
open Go Go.RowKit
variable {w : World} {S : Nat → Prop}
theorem pgS_rows {tE tS tD tT : Nat} {p : Pg} {os ol ot : Option Addr} {cs cl ct : Nat} {B : List Nat} (h : PgS tE tS tD tT w p (pgC p os ol ot cs cl ct) B) : DcRow w (fun _ => True) os p.shared ∧ DcRow w (fun _ => True) ol p.locks ∧ ThRow w (fun _ => True) ot p.threads := by
  obtain ⟨os', cs', ol', cl', ot', ct', e, h1, h2, h3⟩ := h.toV (T := fun _ => True) (fun _ _ => trivial)
  simp only [pgC, List.cons.injEq, Value.slice.injEq, and_true, true_and] at e
  obtain ⟨⟨rfl, -⟩, ⟨rfl, -⟩, rfl, -⟩ := e
  exact ⟨h1, h2, h3⟩
end Sx


namespace Go.Proofs.YtnmhlpnapgojjaaGreatDoor
open Go.RowKit Sx LexS ParS _root_.Go.Proofs.Tryz
theorem pgRes_zero {p : Pg} {s : List UInt8} (h : pgRes p = (s, 0)) : pgOk p = true ∧ (pgT p).length ≤ 65536 ∧ pgT p = s := by
 unfold pgRes at h
 split at h
 ·split at h
  ·rename_i h1 h2; simp only [Prod.mk.injEq, and_true] at h; exact ⟨h1, h2, h⟩
  ·simp at h
 ·simp at h
theorem pgRes_not {p : Pg} {s : List UInt8} {e : Nat} (h : pgRes p = (s, e)) (he : e ≠ 0) : s = [] ∧ (e = 4 ∨ e = 40) := by
 unfold pgRes at h
 split at h
 ·split at h
  ·simp only [Prod.mk.injEq] at h; omega
  ·simp only [Prod.mk.injEq] at h; exact ⟨h.1.symm, .inl h.2.symm⟩
 ·simp only [Prod.mk.injEq] at h; exact ⟨h.1.symm, .inr h.2.symm⟩
end Go.Proofs.YtnmhlpnapgojjaaGreatDoor


/- The reader that goes on when it has failed: what it computes, against the parser that stops. No program in sight. -/
namespace ParS
open Sx LexS

/-- a reader's state: what is left; the first fault (a rule of 0: none yet) -/
structure RS where
  r : List Tok
  f : Flt
end ParS


/- The reader that goes on: lists, statements, threads, programs. -/
namespace ParS
open Sx LexS

/-- one reader behind another -/
def bnd {α β : Type} (p : PR α) (k : α → List Tok → PR β) : PR β := match p with
  | .error f => .error f
  | .ok (a, r) => k a r
def bndW {β : Type} (p : Except Flt (List Tok)) (k : List Tok → PR β) : PR β := match p with
  | .error f => .error f
  | .ok r => k r
section
variable {e : Nat}
section
variable {blk : List Tok → PR (List Sm)} {σ : RS} (hk : (here σ.r).kind = 4 → isSign (here σ.r).text = true)
include hk
end
/-- what stands behind an if's block -/
def elseP (blk : List Tok → PR (List Sm)) (a : Nat) (x : Ex) (b : List Sm) (r1 : List Tok) : PR Sm := if isT wElse r1 = true then bnd (blk r1.tail) (fun l r2 => .ok (Sm.mk 3 [] [] [x] b l (a : Int), r2)) else .ok (Sm.mk 3 [] [] [x] b [] (a : Int), r1)
theorem choice_eq (blk : List Tok → PR (List Sm)) (a : Nat) (r : List Tok) : bnd (condP e r) (fun x r => bnd (blk r) fun b r1 => elseP blk a x b r1) = choiceP e blk a r := by
  unfold choiceP bnd
  cases condP e r with
  | error f => rfl
  | ok p =>
    dsimp only
    cases blk p.2 with
    | error f => rfl
    | ok q =>
      dsimp only
      unfold elseP bnd
      split
      · cases blk q.2.tail <;> rfl
      · rfl
/-- what stands in a swap's parentheses, pieced together -/
def swapQ (e : Nat) (r : List Tok) : PR (List UInt8 × Ex) := bndW (ParS.want e [40] r) fun r => bnd (nameP e r) fun t r1 => bndW (ParS.want e [44] r1) fun r2 => bnd (exprP e 64 r2) fun x r3 => bndW (ParS.want e [41] r3) fun r4 => bndW (ParS.want e [59] r4) fun r5 => .ok ((t.text, x), r5)
theorem swapQ_eq (r : List Tok) : swapQ e r = swapP e r := by
  unfold swapQ swapP bnd bndW
  cases ParS.want e [40] r with
  | error f => rfl
  | ok r0 =>
    dsimp only
    cases nameP e r0 with
    | error f => rfl
    | ok p =>
      dsimp only
      cases ParS.want e [44] p.2 with
      | error f => rfl
      | ok r2 =>
        dsimp only
        cases exprP e 64 r2 with
        | error f => rfl
        | ok q =>
          dsimp only
          cases ParS.want e [41] q.2 with
          | error f => rfl
          | ok r4 => dsimp only; cases ParS.want e [59] r4 <;> rfl
def sideP (e : Nat) (a : Nat) (n : List UInt8) (r1 : List Tok) : PR Sm := if isT wSwap r1 = true then bnd (swapQ e r1.tail) (fun p r2 => .ok (Sm.mk 2 n p.1 [p.2] [] [] (a : Int), r2)) else bnd (exprSemi e r1) (fun x r2 => .ok (Sm.mk 1 n [] [x] [] [] (a : Int), r2))
theorem assign_eq (a : Nat) (r : List Tok) : bnd (nameP e r) (fun t r => bndW (ParS.want e [61] r) fun r1 => sideP e a t.text r1) = assignP e a r := by
  unfold assignP bnd bndW
  cases nameP e r with
  | error f => rfl
  | ok p =>
    dsimp only
    cases ParS.want e [61] p.2 with
    | error f => rfl
    | ok r1 =>
      dsimp only
      unfold sideP bnd
      split
      · rw [swapQ_eq]; cases swapP e r1.tail <;> rfl
      · cases exprSemi e r1 <;> rfl
/-! ### how far statements go -/
theorem want_len {s : List UInt8} {r r' : List Tok} (h : ParS.want e s r = .ok r') : r'.length < r.length := by
  obtain ⟨hc, rfl⟩ := want_ok h; exact tail_lt (isT_ne hc)
theorem thread_eq (r : List Tok) : bnd (nameP e r) (fun t r => bndW (ParS.want e [123] r) fun r1 => bnd (localsP e (r1.length + 1) r1) fun l r2 => bnd (restP e 63 r2) fun b r3 => .ok ((⟨t.text, l, b, (t.at_ : Int)⟩ : Th), r3)) = threadP e r := by
  unfold threadP bnd bndW
  cases nameP e r with
  | error f => rfl
  | ok p =>
    dsimp only
    cases ParS.want e [123] p.2 with
    | error f => rfl
    | ok r1 =>
      dsimp only
      cases localsP e (r1.length + 1) r1 with
      | error f => rfl
      | ok q => dsimp only; cases restP e 63 q.2 <;> rfl
end
end ParS


/- How many statements and expressions a tree has, and how deep it lies. -/
namespace Sx
def sm {α : Type} (f : α → Nat) : List α → Nat
  | [] => 0
  | x :: r => f x + sm f r
mutual
def stS : Sm → Nat
  | .mk _ _ _ _ body els _ => 1 + stSs body + stSs els
termination_by structural e => e
def stSs : List Sm → Nat
  | [] => 0
  | e :: r => stS e + stSs r
termination_by structural l => l
end
/-- of a program -/
def stP (p : Pg) : Nat := sm (fun t : Th => stSs t.body) p.threads
end Sx
namespace Sx
end Sx


/- How great a tree is that is parsed: no greater than its tokens make it. -/
namespace ParS
open Sx LexS
theorem name_le {l : List UInt8} (h : isName l = true) : l.length ≤ 32 := by
  match l, h with
  | c :: r, h => simp only [isName, Bool.and_eq_true, decide_eq_true_eq] at h; exact h.1.1.1
theorem tl {r : List Tok} (h : r ≠ []) : r.tail.length + 1 = r.length := by cases r with | nil => exact absurd rfl h | cons x l => simp
def BdE (u : List Tok → PR Ex) : Prop := ∀ r x r', TsOk r → u r = .ok (x, r') → szE x + 34 * r'.length ≤ 34 * r.length ∧ TsOk r'
theorem loopE_bd {u : List Tok → PR Ex} (hu : BdE u) : ∀ (n : Nat) (lv : Int) (x : Ex) (r : List Tok) (z : Ex) (r' : List Tok), TsOk r → loopE u n lv x r = .ok (z, r') → szE z + 34 * r'.length ≤ szE x + 34 * r.length ∧ TsOk r'
  | 0, lv, x, r, z, r', _, h => by simp [loopE] at h
  | n + 1, lv, x, r, z, r', hr, h => by
    simp only [loopE] at h
    cases hop : opT (here r) with
    | none => rw [hop] at h; cases h; exact ⟨Nat.le_refl _, hr⟩
    | some op =>
      rw [hop] at h; dsimp only at h
      have hne := tl (opT_ne hop)
      split at h
      · cases h; exact ⟨Nat.le_refl _, hr⟩
      · cases hy : u r.tail with
        | error f => rw [hy] at h; cases h
        | ok p =>
          obtain ⟨y, r1⟩ := p
          rw [hy] at h; dsimp only at h
          obtain ⟨a1, k1⟩ := hu _ _ _ hr.tail hy
          cases hz : loopE u n (lvlO (op : Int) + 1) y r1 with
          | error f => rw [hz] at h; cases h
          | ok q =>
            obtain ⟨z1, r2⟩ := q
            rw [hz] at h; dsimp only at h
            obtain ⟨a2, k2⟩ := loopE_bd hu n _ _ _ _ _ k1 hz
            obtain ⟨a3, k3⟩ := loopE_bd hu n _ _ _ _ _ k2 h
            have e : szE (binE op (here r).at_ x z1) = szE x + szE z1 + 1 := by simp [binE, szE, szEs]
            exact ⟨by omega, k3⟩
theorem exprW_bd {u : List Tok → PR Ex} (hg : Goes u) (hu : BdE u) : BdE (exprW u) := by
  intro r x r' hr h
  rw [← climbE_expr u hg] at h
  unfold climbE at h
  cases hx : u r with
  | error f => rw [hx] at h; cases h
  | ok p =>
    obtain ⟨y, r1⟩ := p
    rw [hx] at h; dsimp only at h
    obtain ⟨a1, k1⟩ := hu _ _ _ hr hx
    obtain ⟨a2, k2⟩ := loopE_bd hu _ _ _ _ _ _ k1 h
    exact ⟨by omega, k2⟩
theorem leaf_bd (e : Nat) : BdE (leafP e) := by
  intro r x r' hr h
  unfold leafP at h
  split at h
  · rename_i hk
    have := tl (kind_ne hk (by decide))
    cases h
    exact ⟨by simp [szE, szEs]; omega, hr.tail⟩
  · split at h
    · rename_i hk
      have := tl (kind_ne hk (by decide))
      have hn := name_le (hr.here.name hk)
      cases h
      refine ⟨?_, hr.tail⟩
      simp only [szE, szEs]; omega
    · cases h
theorem unary_bd (e : Nat) : ∀ m, BdE (unaryP e m)
  | 0 => by
    intro r x r' hr h
    simp only [unaryP] at h
    split at h
    · cases h
    · exact leaf_bd e r x r' hr h
  | m + 1 => by
    intro r x r' hr h
    simp only [unaryP] at h
    split at h
    · rename_i hi
      have hne := tl (inner_ne hi)
      split at h
      · cases hx : exprW (unaryP e m) r.tail with
        | error f => rw [hx] at h; cases h
        | ok p =>
          obtain ⟨y, r1⟩ := p
          rw [hx] at h; dsimp only at h
          obtain ⟨a1, k1⟩ := exprW_bd (unary_goes e m) (unary_bd e m) _ _ _ hr.tail hx
          cases hw : want e [41] r1 with
          | error f => rw [hw] at h; cases h
          | ok r2 => rw [hw] at h; cases h; have := want_len hw; exact ⟨by omega, want_ts k1 hw⟩
      · cases hx : unaryP e m r.tail with
        | error f => rw [hx] at h; cases h
        | ok p =>
          obtain ⟨y, r1⟩ := p
          rw [hx] at h; cases h
          obtain ⟨a1, k1⟩ := unary_bd e m _ _ _ hr.tail hx
          exact ⟨by simp [szE, szEs]; omega, k1⟩
    · exact leaf_bd e r x r' hr h
theorem expr_bd (e m : Nat) : BdE (exprP e m) := exprW_bd (unary_goes e m) (unary_bd e m)
section
variable {e : Nat}
theorem name_bd {r r' : List Tok} {t : Tok} (hr : TsOk r) (h : nameP e r = .ok (t, r')) : t.text.length + 34 * r'.length + 2 ≤ 34 * r.length ∧ TsOk r' := by
  unfold nameP at h; split at h
  · rename_i hk
    have := tl (kind_ne hk (by decide))
    have hn := name_le (hr.here.name hk)
    cases h; exact ⟨by omega, hr.tail⟩
  · cases h
theorem cond_bd {r r' : List Tok} {x : Ex} (hr : TsOk r) (h : condP e r = .ok (x, r')) : szE x + 34 * r'.length + 34 ≤ 34 * r.length ∧ TsOk r' := by
  unfold condP at h
  cases h1 : want e [40] r with
  | error f => rw [h1] at h; cases h
  | ok r1 =>
    rw [h1] at h; dsimp only at h
    have l1 := want_len h1
    have k1 := want_ts hr h1
    cases h2 : exprP e 64 r1 with
    | error f => rw [h2] at h; cases h
    | ok p =>
      obtain ⟨y, r2⟩ := p
      rw [h2] at h; dsimp only at h
      obtain ⟨a2, k2⟩ := expr_bd _ _ _ _ _ k1 h2
      cases h3 : want e [41] r2 with
      | error f => rw [h3] at h; cases h
      | ok r3 => rw [h3] at h; cases h; have := want_len h3; exact ⟨by omega, want_ts k2 h3⟩
theorem semi_bd {r r' : List Tok} {x : Ex} (hr : TsOk r) (h : exprSemi e r = .ok (x, r')) : szE x + 34 * r'.length + 34 ≤ 34 * r.length ∧ TsOk r' := by
  unfold exprSemi at h
  cases h2 : exprP e 64 r with
  | error f => rw [h2] at h; cases h
  | ok p =>
    obtain ⟨y, r2⟩ := p
    rw [h2] at h; dsimp only at h
    obtain ⟨a2, k2⟩ := expr_bd _ _ _ _ _ hr h2
    cases h3 : want e [59] r2 with
    | error f => rw [h3] at h; cases h
    | ok r3 => rw [h3] at h; cases h; have := want_len h3; exact ⟨by omega, want_ts k2 h3⟩
theorem swap_bd {r r' : List Tok} {o : List UInt8} {x : Ex} (hr : TsOk r) (h : swapP e r = .ok ((o, x), r')) : o.length + szE x + 34 * r'.length ≤ 34 * r.length ∧ TsOk r' := by
  rw [← swapQ_eq] at h
  unfold swapQ bnd bndW at h
  cases h1 : want e [40] r with
  | error f => rw [h1] at h; cases h
  | ok r1 =>
    rw [h1] at h; dsimp only at h
    have l1 := want_len h1
    have k1 := want_ts hr h1
    cases hn : nameP e r1 with
    | error f => rw [hn] at h; cases h
    | ok q =>
      obtain ⟨t, r2⟩ := q
      rw [hn] at h; dsimp only at h
      obtain ⟨a2, k2⟩ := name_bd k1 hn
      cases h3 : want e [44] r2 with
      | error f => rw [h3] at h; cases h
      | ok r3 =>
        rw [h3] at h; dsimp only at h
        have l3 := want_len h3
        have k3 := want_ts k2 h3
        cases h4 : exprP e 64 r3 with
        | error f => rw [h4] at h; cases h
        | ok y =>
          obtain ⟨y, r4⟩ := y
          rw [h4] at h; dsimp only at h
          obtain ⟨a4, k4⟩ := expr_bd _ _ _ _ _ k3 h4
          cases h5 : want e [41] r4 with
          | error f => rw [h5] at h; cases h
          | ok r5 =>
            rw [h5] at h; dsimp only at h
            have l5 := want_len h5
            have k5 := want_ts k4 h5
            cases h6 : want e [59] r5 with
            | error f => rw [h6] at h; cases h
            | ok r6 => rw [h6] at h; cases h; have := want_len h6; exact ⟨by omega, want_ts k5 h6⟩
theorem assign_bd {a : Nat} {r r' : List Tok} {s : Sm} (hr : TsOk r) (h : assignP e a r = .ok (s, r')) : szS s + 34 * r'.length ≤ 34 * r.length ∧ TsOk r' := by
  rw [← assign_eq] at h
  unfold bnd bndW at h
  cases hn : nameP e r with
  | error f => rw [hn] at h; cases h
  | ok q =>
    obtain ⟨t, r1⟩ := q
    rw [hn] at h; dsimp only at h
    obtain ⟨a2, k2⟩ := name_bd hr hn
    cases h3 : want e [61] r1 with
    | error f => rw [h3] at h; cases h
    | ok r3 =>
      rw [h3] at h; dsimp only at h
      have l3 := want_len h3
      have k3 := want_ts k2 h3
      unfold sideP bnd at h
      split at h
      · rw [swapQ_eq] at h
        cases h4 : swapP e r3.tail with
        | error f => rw [h4] at h; cases h
        | ok y =>
          obtain ⟨⟨o, x⟩, r4⟩ := y
          rw [h4] at h; cases h
          obtain ⟨a4, k4⟩ := swap_bd k3.tail h4
          simp only [List.length_tail] at a4
          exact ⟨by simp only [szS, szSs, szEs]; omega, k4⟩
      · cases h4 : exprSemi e r3 with
        | error f => rw [h4] at h; cases h
        | ok y =>
          obtain ⟨x, r4⟩ := y
          rw [h4] at h; cases h
          obtain ⟨a4, k4⟩ := semi_bd k3 h4
          exact ⟨by simp only [szS, szSs, szEs, List.length_nil]; omega, k4⟩
def BdB (bk : List Tok → PR (List Sm)) : Prop := ∀ r l r', TsOk r → bk r = .ok (l, r') → szSs l + 34 * r'.length ≤ 34 * r.length ∧ TsOk r'
theorem stmtW_bd {bk : List Tok → PR (List Sm)} (hb : BdB bk) {r r' : List Tok} {s : Sm} (hr : TsOk r) (h : stmtW e bk r = .ok (s, r')) : szS s + 34 * r'.length ≤ 34 * r.length ∧ TsOk r' := by
  rw [stmtW_eq] at h
  have hform : ∀ w, formT (here r) w = true → r.tail.length + 1 = r.length := fun w hw => tl (by
    unfold formT at hw
    simp only [Bool.and_eq_true, decide_eq_true_eq] at hw
    exact kind_ne hw.2 (by decide))
  split at h
  · rename_i hw
    have l0 := hform _ hw
    rw [← choice_eq] at h
    unfold bnd at h
    cases h1 : condP e r.tail with
    | error f => rw [h1] at h; cases h
    | ok p =>
      obtain ⟨x, r1⟩ := p
      rw [h1] at h; dsimp only at h
      obtain ⟨a1, k1⟩ := cond_bd hr.tail h1
      cases h2 : bk r1 with
      | error f => rw [h2] at h; cases h
      | ok q =>
        obtain ⟨b, r2⟩ := q
        rw [h2] at h; dsimp only at h
        obtain ⟨a2, k2⟩ := hb _ _ _ k1 h2
        unfold elseP bnd at h
        split at h
        · cases h3 : bk r2.tail with
          | error f => rw [h3] at h; cases h
          | ok y =>
            obtain ⟨l, r3⟩ := y
            rw [h3] at h; cases h
            obtain ⟨a3, k3⟩ := hb _ _ _ k2.tail h3
            simp only [List.length_tail] at a3
            exact ⟨by simp only [szS, szEs, List.length_nil]; omega, k3⟩
        · cases h
          exact ⟨by simp only [szS, szEs, szSs, List.length_nil]; omega, k2⟩
  · split at h
    · rename_i hw
      have l0 := hform _ hw
      unfold loopP at h
      cases h1 : condP e r.tail with
      | error f => rw [h1] at h; cases h
      | ok p =>
        obtain ⟨x, r1⟩ := p
        rw [h1] at h; dsimp only at h
        obtain ⟨a1, k1⟩ := cond_bd hr.tail h1
        cases h2 : bk r1 with
        | error f => rw [h2] at h; cases h
        | ok q =>
          obtain ⟨b, r2⟩ := q
          rw [h2] at h; cases h
          obtain ⟨a2, k2⟩ := hb _ _ _ k1 h2
          exact ⟨by simp only [szS, szEs, szSs, List.length_nil]; omega, k2⟩
    · split at h
      · rename_i hw
        have l0 := hform _ hw
        unfold guardP at h
        cases h1 : nameP e r.tail with
        | error f => rw [h1] at h; cases h
        | ok p =>
          obtain ⟨t, r1⟩ := p
          rw [h1] at h; dsimp only at h
          obtain ⟨a1, k1⟩ := name_bd hr.tail h1
          cases h2 : bk r1 with
          | error f => rw [h2] at h; cases h
          | ok q =>
            obtain ⟨b, r2⟩ := q
            rw [h2] at h; cases h
            obtain ⟨a2, k2⟩ := hb _ _ _ k1 h2
            exact ⟨by simp only [szS, szEs, szSs, List.length_nil]; omega, k2⟩
      · split at h
        · rename_i hw
          have l0 := hform _ hw
          unfold printP at h
          cases h2 : exprP e 64 r.tail with
          | error f => rw [h2] at h; cases h
          | ok p =>
            obtain ⟨y, r2⟩ := p
            rw [h2] at h; dsimp only at h
            obtain ⟨a2, k2⟩ := expr_bd _ _ _ _ _ hr.tail h2
            cases h3 : want e [59] r2 with
            | error f => rw [h3] at h; cases h
            | ok r3 => rw [h3] at h; cases h; have := want_len h3; exact ⟨by simp only [szS, szEs, szSs, List.length_nil]; omega, want_ts k2 h3⟩
        · split at h
          · rename_i hw
            have l0 := hform _ hw
            unfold skipP at h
            cases h3 : want e [59] r.tail with
            | error f => rw [h3] at h; cases h
            | ok r3 => rw [h3] at h; cases h; have := want_len h3; exact ⟨by simp only [szS, szEs, szSs, List.length_nil]; omega, want_ts hr.tail h3⟩
          · exact assign_bd hr h
theorem restW_bd {st : List Tok → PR Sm} (hs : ∀ r s r', TsOk r → st r = .ok (s, r') → szS s + 34 * r'.length ≤ 34 * r.length ∧ TsOk r') : ∀ (k : Nat) (r : List Tok) (l : List Sm) (r' : List Tok), TsOk r → restW st k r = .ok (l, r') → szSs l + 34 * r'.length ≤ 34 * r.length ∧ TsOk r'
  | 0, r, l, r', _, h => by simp [restW] at h
  | k + 1, r, l, r', hr, h => by
    simp only [restW] at h
    split at h
    · cases h; exact ⟨by simp only [szSs, List.length_tail]; omega, hr.tail⟩
    · cases h1 : st r with
      | error f => rw [h1] at h; cases h
      | ok p =>
        obtain ⟨s, r1⟩ := p
        rw [h1] at h; dsimp only at h
        obtain ⟨a1, k1⟩ := hs _ _ _ hr h1
        cases h2 : restW st k r1 with
        | error f => rw [h2] at h; cases h
        | ok q =>
          obtain ⟨l2, r2⟩ := q
          rw [h2] at h; cases h
          obtain ⟨a2, k2⟩ := restW_bd hs k _ _ _ k1 h2
          exact ⟨by simp only [szSs]; omega, k2⟩
theorem stmt_bd : ∀ (m : Nat) (r : List Tok) (s : Sm) (r' : List Tok), TsOk r → stmtP e m r = .ok (s, r') → szS s + 34 * r'.length ≤ 34 * r.length ∧ TsOk r'
  | 0, r, s, r', hr, h => by
    rw [stmtP_blk] at h
    refine stmtW_bd (bk := blkP e 0) (fun r l r' _ h => ?_) hr h
    simp only [blkP] at h
    split at h <;> cases h
  | m + 1, r, s, r', hr, h => by
    rw [stmtP_blk] at h
    refine stmtW_bd (bk := blkP e (m + 1)) (fun r l r' hr h => ?_) hr h
    simp only [blkP] at h
    cases h1 : want e [123] r with
    | error f => rw [h1] at h; cases h
    | ok r1 =>
      rw [h1] at h; dsimp only at h
      have := want_len h1
      obtain ⟨a, k⟩ := restW_bd (fun r s r' hr h => stmt_bd m r s r' hr h) _ _ _ _ (want_ts hr h1) h
      exact ⟨by omega, k⟩
theorem decl_bd {r r' : List Tok} {x : Dc} (hr : TsOk r) (h : declP e r = .ok (x, r')) : x.nm.length + 1 + 34 * r'.length ≤ 34 * r.length ∧ TsOk r' := by
  unfold declP at h
  cases hn : nameP e r with
  | error f => rw [hn] at h; cases h
  | ok p =>
    obtain ⟨t, r1⟩ := p
    rw [hn] at h; cases h
    obtain ⟨a, k⟩ := name_bd hr hn
    exact ⟨by dsimp only; omega, k⟩
theorem init_bd {r r' : List Tok} {x : Dc} (hr : TsOk r) (h : initP e r = .ok (x, r')) : x.nm.length + 1 + 34 * r'.length ≤ 34 * r.length ∧ TsOk r' := by
  have hts := (init_right hr h).2
  refine ⟨?_, hts⟩
  unfold initP at h
  cases hn : nameP e r with
  | error f => rw [hn] at h; cases h
  | ok p =>
    obtain ⟨t, r1⟩ := p
    rw [hn] at h; dsimp only at h
    obtain ⟨a, k⟩ := name_bd hr hn
    split at h
    · obtain ⟨R, hR⟩ : ∃ R, R = (if isT [45] r1.tail = true then r1.tail.tail else r1.tail) := ⟨_, rfl⟩
      have kR : R.length ≤ r1.length := by rw [hR]; split <;> simp only [List.length_tail] <;> omega
      rw [← hR] at h
      unfold wordP at h
      split at h
      · cases h
      · rename_i y r2 hw
        split at hw
        · cases hw; cases h
          have : R.tail.length ≤ R.length := by simp
          dsimp only; omega
        · cases hw
    · cases h; dsimp only; omega
theorem list_bd {one : List Tok → PR Dc} (ho : ∀ r x r', TsOk r → one r = .ok (x, r') → x.nm.length + 1 + 34 * r'.length ≤ 34 * r.length ∧ TsOk r') : ∀ (n : Nat) (r : List Tok) (l : List Dc) (r' : List Tok), TsOk r → listP e one n r = .ok (l, r') → szDs l + 34 * r'.length ≤ 34 * r.length ∧ TsOk r'
  | 0, r, l, r', _, h => by simp [listP] at h
  | n + 1, r, l, r', hr, h => by
    simp only [listP] at h
    cases h1 : one r with
    | error f => rw [h1] at h; cases h
    | ok p =>
      obtain ⟨x, r1⟩ := p
      rw [h1] at h; dsimp only at h
      obtain ⟨a1, k1⟩ := ho _ _ _ hr h1
      split at h
      · cases h2 : listP e one n r1.tail with
        | error f => rw [h2] at h; cases h
        | ok p =>
          obtain ⟨l2, r2⟩ := p
          rw [h2] at h; cases h
          obtain ⟨a2, k2⟩ := list_bd ho n _ _ _ k1.tail h2
          simp only [List.length_tail] at a2
          exact ⟨by simp only [szDs]; omega, k2⟩
      · cases h2 : want e [59] r1 with
        | error f => rw [h2] at h; cases h
        | ok r2 =>
          rw [h2] at h; cases h
          have := want_len h2
          exact ⟨by simp only [szDs]; omega, want_ts k1 h2⟩
theorem szDs_app (a b : List Dc) : szDs (a ++ b) = szDs a + szDs b := by
  induction a with
  | nil => simp [szDs]
  | cons x a ih => simp only [List.cons_append, szDs, ih]; omega
theorem locals_bd : ∀ (n : Nat) (r : List Tok) (l : List Dc) (r' : List Tok), TsOk r → localsP e n r = .ok (l, r') → szDs l + 34 * r'.length ≤ 34 * r.length ∧ TsOk r'
  | 0, r, l, r', _, h => by simp [localsP] at h
  | n + 1, r, l, r', hr, h => by
    simp only [localsP] at h
    split at h
    · cases hq : listP e (declP e) (r.length + 1) r.tail with
      | error f => rw [hq] at h; cases h
      | ok q =>
        obtain ⟨l1, r1⟩ := q
        rw [hq] at h; dsimp only at h
        obtain ⟨a1, k1⟩ := list_bd (fun _ _ _ h1 h2 => decl_bd h1 h2) _ _ _ _ hr.tail hq
        simp only [List.length_tail] at a1
        cases hz : localsP e n r1 with
        | error f => rw [hz] at h; cases h
        | ok z =>
          obtain ⟨l2, r2⟩ := z
          rw [hz] at h; cases h
          obtain ⟨a2, k2⟩ := locals_bd n _ _ _ k1 hz
          exact ⟨by rw [szDs_app]; omega, k2⟩
    · cases h; exact ⟨by simp [szDs], hr⟩
theorem thread_bd {r r' : List Tok} {t : Th} (hr : TsOk r) (h : threadP e r = .ok (t, r')) : t.nm.length + szDs t.locals + szSs t.body + 1 + 34 * r'.length ≤ 34 * r.length ∧ TsOk r' := by
  rw [← thread_eq] at h
  unfold bnd bndW at h
  cases hn : nameP e r with
  | error f => rw [hn] at h; cases h
  | ok p =>
    obtain ⟨n, r0⟩ := p
    rw [hn] at h; dsimp only at h
    obtain ⟨a1, k1⟩ := name_bd hr hn
    cases hw : want e [123] r0 with
    | error f => rw [hw] at h; cases h
    | ok r1 =>
      rw [hw] at h; dsimp only at h
      have l2 := want_len hw
      cases hl : localsP e (r1.length + 1) r1 with
      | error f => rw [hl] at h; cases h
      | ok q =>
        obtain ⟨l, r2⟩ := q
        rw [hl] at h; dsimp only at h
        obtain ⟨a3, k3⟩ := locals_bd _ _ _ _ (want_ts k1 hw) hl
        cases hb : restP e 63 r2 with
        | error f => rw [hb] at h; cases h
        | ok z =>
          obtain ⟨b, r3⟩ := z
          rw [hb] at h; cases h
          obtain ⟨a4, k4⟩ := restW_bd (fun r s r' hr h => stmt_bd 63 r s r' hr h) _ _ _ _ k3 hb
          exact ⟨by dsimp only; omega, k4⟩
theorem threads_bd : ∀ (n : Nat) (r : List Tok) (l : List Th) (r' : List Tok), TsOk r → threadsP e n r = .ok (l, r') → szTs l + 34 * r'.length ≤ 34 * r.length ∧ TsOk r'
  | 0, r, l, r', _, h => by simp [threadsP] at h
  | n + 1, r, l, r', hr, h => by
    simp only [threadsP] at h
    split at h
    · cases h1 : threadP e r.tail with
      | error f => rw [h1] at h; cases h
      | ok p =>
        obtain ⟨t, r1⟩ := p
        rw [h1] at h; dsimp only at h
        obtain ⟨a1, k1⟩ := thread_bd hr.tail h1
        simp only [List.length_tail] at a1
        cases h2 : threadsP e n r1 with
        | error f => rw [h2] at h; cases h
        | ok p =>
          obtain ⟨l2, r2⟩ := p
          rw [h2] at h; cases h
          obtain ⟨a2, k2⟩ := threads_bd n _ _ _ k1 h2
          exact ⟨by simp only [szTs]; omega, k2⟩
    · cases h; exact ⟨by simp [szTs], hr⟩
theorem prog_bd : ∀ (n : Nat) (r : List Tok) (p : Pg), TsOk r → progP e n r = .ok p → szP p ≤ 34 * r.length
  | 0, r, p, _, h => by simp [progP] at h
  | n + 1, r, p, hr, h => by
    simp only [progP] at h
    split at h
    · cases h1 : listP e (initP e) (r.length + 1) r.tail with
      | error f => rw [h1] at h; cases h
      | ok q =>
        obtain ⟨l, r1⟩ := q
        rw [h1] at h; dsimp only at h
        obtain ⟨a1, k1⟩ := list_bd (fun _ _ _ h1 h2 => init_bd h1 h2) _ _ _ _ hr.tail h1
        simp only [List.length_tail] at a1
        cases h2 : progP e n r1 with
        | error f => rw [h2] at h; cases h
        | ok p2 =>
          rw [h2] at h; cases h
          have := prog_bd n _ _ k1 h2
          simp only [szP, szDs_app] at this ⊢; omega
    · split at h
      · cases h1 : listP e (declP e) (r.length + 1) r.tail with
        | error f => rw [h1] at h; cases h
        | ok q =>
          obtain ⟨l, r1⟩ := q
          rw [h1] at h; dsimp only at h
          obtain ⟨a1, k1⟩ := list_bd (fun _ _ _ h1 h2 => decl_bd h1 h2) _ _ _ _ hr.tail h1
          simp only [List.length_tail] at a1
          cases h2 : progP e n r1 with
          | error f => rw [h2] at h; cases h
          | ok p2 =>
            rw [h2] at h; cases h
            have := prog_bd n _ _ k1 h2
            simp only [szP, szDs_app] at this ⊢; omega
      · cases h1 : threadsP e (r.length + 1) r with
        | error f => rw [h1] at h; cases h
        | ok q =>
          obtain ⟨l, r1⟩ := q
          rw [h1] at h; dsimp only at h
          obtain ⟨a1, k1⟩ := threads_bd _ _ _ _ hr h1
          split at h
          · cases h; simp only [szP, szDs]; omega
          · cases h
end
theorem parse_bd {s : List UInt8} {p : Pg} {e a b : Nat} (h : parseRes s = (p, e, a, b)) : szP p ≤ 2228224 := by
  unfold parseRes at h
  split at h
  · cases h; decide
  · rename_i hs
    split at h
    · cases h; decide
    · have hts := front_ts (s := s) (by omega)
      obtain ⟨hl, -⟩ := front_ok (s := s) (T := (front s).1) (f := (front s).2) rfl
      split at h
      · cases h; decide
      · rename_i q hq
        cases h
        have := prog_bd _ _ _ hts hq
        omega
end ParS


namespace Go.Proofs.YtnmhlpnapgojjaaGreatDoor
open Go.RowKit Sx LexS ParS _root_.Go.Proofs.Tryz
theorem pg_rows {w : World} {p : Pg} {gs gl gt : Option Addr} {gcs gcl gct : Nat} {B : List Nat} (h : PgS 42 67 63 69 w p (pgC p gs gl gt gcs gcl gct) B) : DcRow w (· < w.heap.size) gs p.shared ∧ DcRow w (· < w.heap.size) gl p.locks ∧ ThRow w (· < w.heap.size) gt p.threads := by
 obtain ⟨os, cs, ol, cl, ot, ct, e, h1, h2, h3⟩ := PgS.toV h (T := (· < w.heap.size)) (fun b hb => PgS.lt h b hb)
 simp only [List.cons.injEq, Value.slice.injEq, and_true, true_and] at e
 obtain ⟨⟨rfl, -⟩, ⟨rfl, -⟩, rfl, -⟩ := e
 exact ⟨h1, h2, h3⟩
theorem pgRes_z {p q : Pg} (h : zP q = zP p) : pgRes q = pgRes p := by
 rw [← pgRes_tr (h := fun _ => 0) q, ← pgRes_tr (h := fun _ => 0) p]
 exact congrArg pgRes h
theorem okP_z {s : List UInt8} {q : Pg} {e a b : Nat} (h : parseRes s = (q, e, a, b)) : OkP q := by
 by_cases h0 : e = 0
 ·subst h0; exact (parse_right h).2
 ·have : q = pg0 := by
   unfold parseRes at h
   split at h
   ·cases h; rfl
   ·split at h
    ·cases h; rfl
    ·split at h
     ·cases h; rfl
     ·cases h; exact absurd rfl h0
  subst this
  exact ⟨⟨by simp [pg0], by simp [pg0]⟩, ⟨by simp [pg0], by simp [pg0]⟩, ⟨by simp [pg0], by simp [pg0]⟩⟩
theorem parse_not {s : List UInt8} {q : Pg} {e a b : Nat} (h : parseRes s = (q, e, a, b)) (h0 : e ≠ 0) : q = pg0 := by
 unfold parseRes at h
 split at h
 ·cases h; rfl
 ·split at h
  ·cases h; rfl
  ·split at h
   ·cases h; rfl
   ·cases h; exact absurd rfl h0
theorem parse_lens {s : List UInt8} {q : Pg} {e a b : Nat} (h : parseRes s = (q, e, a, b)) : pgOk q = true → (pgT q).length ≤ 1099511627776 := fun hp => by
 have := pgT_len q (okP_z h) hp
 have := parse_bd h
 omega
/-- what 'Laid' answers -/
def laidRes (p : Pg) : Pg × Nat := if (pgRes p).2 = 0 then ((parseRes (pgRes p).1).1, 0) else (pg0, (pgRes p).2)

theorem plaid_any (p : Pg) (os ol ot : Option Addr) (cs cl ct : Nat) (w : World) (hSh : DcRow w (· < w.heap.size) os p.shared) (hL : DcRow w (· < w.heap.size) ol p.locks) (hT : ThRow w (· < w.heap.size) ot p.threads) (hok : OkP p) (hsg : Sig w) (hlen : pgOk p = true → (pgT p).length ≤ 1099511627776) :
    Ret Tryz.prog 12 [.agg (pgL p os ol ot cs cl ct).toArray] w fun v w' => ∃ vp, v = .tuple #[vp, .int .i64 ((laidRes p).2 : Int)] ∧ Pq.HP w (laidRes p).1 vp w' ∧ Chg [] w w' := by
 refine ret_of [_] func12 rfl ntmps12 rfl ?_
 have st := St.init w []
 obtain ⟨w0, rfl⟩ : ∃ w0, w0 = w := ⟨_, rfl⟩
 obtain ⟨s, e1, hpr⟩ : ∃ s e1, pgRes p = (s, e1) := ⟨_, _, rfl⟩
 have hlr : laidRes p = if e1 = 0 then ((parseRes s).1, 0) else (pg0, e1) := by unfold laidRes; rw [hpr]
 refine vc_seq (vc_region ?_)
 refine vc_e (e_bx (l := [_, _, _]) st rfl rfl rfl rfl ?_)
 intro b1 w hb1 st
 refine vc_e (e_al (l := [_, _, _]) st rfl rfl zeroValue26 rfl ?_)
 intro b2 w hb2 st
 refine ya ?_
 refine vc_end (vq_then (vk2 1 2 (vc_seq (vc_region ?_))))
 refine yla st 1 [_, _, _] isAgg26 sizeOf26 ?_
 refine vc_e (e_call [_] rfl rfl call11 rfl (wprintP_any p _ _ _ _ _ _ _ (RowC.mono (RowC.kept hSh (Same.of_nil st.chg)) (fun b hb => Nat.lt_of_lt_of_le hb st.chg.size)) (RowC.mono (RowC.kept hL (Same.of_nil st.chg)) (fun b hb => Nat.lt_of_lt_of_le hb st.chg.size)) ((hT.kept (Same.of_nil st.chg)).mono (fun b hb => Nat.lt_of_lt_of_le hb st.chg.size)) hok (hsg.kept st.chg) hlen) ?_)
 rintro _ w ⟨rfl, cw⟩
 replace st := st.call0 cw
 rw [hpr]
 refine ym ?_
 iterate 2 refine vy (y_ext rfl rfl) ?_
 iterate 2 refine ya ?_
 refine vc_end (vq_then (vk3 2 4 5 (vc_seq (vc_seq (vc_region ?_)))))
 refine ym ?_
 refine vy (y_nei rfl rfl) ?_
 refine vc_end (vq_then (vk4 2 4 5 15 ?_))
 refine vc_ifs rfl ?_ ?_
 ·intro hc15
  try simp only [dn] at hc15
  have he1 : ¬ e1 = 0 := by omega
  rw [if_neg he1] at hlr
  refine vc_seq (vc_region ?_)
  refine vy (y_bld (.agg #[_, _, _]) [] rfl (fun w => by simp [Instr.build, go_sem] <;> repeat' constructor)) ?_
  refine ym ?_
  refine vc_e (e_sts (vs := [_, _, _]) st 0 rfl rfl rfl rfl rfl sizeOf26 rfl rfl (by (right; assumption)) ?_)
  intro w st; dsimp only [setNth, wr] at st
  refine ya ?_
  refine vc_end (vq_then (vk2 2 3 (vc_ret (vq_then_ret ?_))))
  refine vq_ret2 st (.inl rfl) results12 (by exact .cell 0 rfl rfl isAgg26 sizeOf26) (.tmp rfl) ?_
  refine ⟨_, rfl, ?_⟩
  refine ⟨_, by rw [hlr], by rw [hlr]; exact Pq.hp_none _ _, st.chg⟩
 ·intro hc15
  try simp only [dn] at hc15
  have he1 : e1 = 0 := by omega
  rw [if_pos he1] at hlr
  obtain ⟨q, e2, fa, fr, hq⟩ : ∃ q e2 fa fr, parseRes s = (q, e2, fa, fr) := ⟨_, _, _, _, rfl⟩
  rw [hq] at hlr
  refine vc_code_skip (vq_then (vk2 2 4 (vc_seq (vc_region ?_))))
  refine ym ?_
  refine vc_e (e_call [_] rfl rfl call10 rfl (Pq.parse_any s _ (SigAt.kept hsg st.chg (by simp))) ?_)
  rintro _ w h
  rw [Pq.ParsePost, hq] at h
  dsimp only at h
  obtain ⟨cw, _, ⟨os1, ol1, ot1, cs1, cl1, ct1, Sq1, rfl, hQ1, hN⟩, rfl⟩ := h
  have hNw1 := hN.le st.chg.size
  replace st := st.pushR cw (Sx.holds_pg hQ1) hN.2
  refine ym ?_
  iterate 3 refine vy (y_ext rfl rfl) ?_
  refine vc_e (e_al (l := [_, _, _]) st rfl rfl zeroValue26 rfl ?_)
  intro b6 w hb6 st
  refine vc_e (e_al (l := [_, _]) st rfl rfl zeroValue29 rfl ?_)
  intro b8 w hb8 st
  refine vc_e (e_sts (vs := [_, _, _]) st 1 rfl rfl rfl rfl rfl sizeOf26 rfl rfl (by (right; assumption)) ?_)
  intro w st; dsimp only [setNth, wr] at st
  refine ya ?_
  refine vc_e (e_sts (vs := [_, _]) st 0 rfl rfl rfl rfl rfl sizeOf29 rfl rfl (by (right; assumption)) ?_)
  intro w st; dsimp only [setNth, wr] at st
  refine vc_end (vq_then (vk2 2 6 (vc_seq (vc_region ?_))))
  refine yla st 1 [_, _, _] isAgg26 sizeOf26 ?_
  refine vc_e (e_sts (vs := [_, _, _]) st 3 rfl rfl rfl rfl rfl sizeOf26 rfl rfl (by (right; assumption)) ?_)
  intro w st; dsimp only [setNth, wr] at st
  refine ya ?_
  refine vc_end (vq_then (vk2 2 3 (vc_ret ?_)))
  refine vq_ret2 st (.inl rfl) results12 (by exact .cell 3 rfl rfl isAgg26 sizeOf26) (.tmp rfl) ?_
  refine ⟨_, rfl, ?_⟩
  refine ⟨_, by rw [hlr]; rfl, by rw [hlr]; exact ⟨os1, ol1, ot1, cs1, cl1, ct1, Sq1, rfl, (by exact (st.res (i := 2) rfl).1), hNw1⟩, st.chg⟩

set_option maxHeartbeats 4000000 in
theorem lawPrettyOne (s : List UInt8) (w : World) (hsg : Sig w) : Ret Tryz.prog 3 [str s] w fun v w' => v = .bool true ∧ Chg [] w w' := by
 refine ret_of [_] func3 rfl ntmps3 rfl ?_
 have st := St.init w []
 obtain ⟨w0, rfl⟩ : ∃ w0, w0 = w := ⟨_, rfl⟩
 obtain ⟨p, e1, fp, fr, hR⟩ : ∃ p e1 fp fr, parseRes s = (p, e1, fp, fr) := ⟨_, _, _, _, rfl⟩
 have hok := okP_z hR
 have hlen := parse_lens hR
 refine vc_seq (vc_region ?_)
 refine ya ?_
 refine vc_end (vq_then (vk1 0 (vc_seq (vc_seq (vc_region ?_)))))
 refine vc_e (e_call [] rfl rfl call9 rfl (begins_any _ (hsg.kept st.chg)) ?_)
 rintro _ w ⟨rfl, cw⟩
 replace st := st.call0 cw
 refine vy (y_not rfl) ?_
 refine vc_end (vq_then (vk2 0 14 ?_))
 refine vc_ifs rfl ?_ ?_
 ·intro hc14
  exact absurd hc14 (by decide)
 ·intro hc14
  try simp only [dn] at hc14
  refine vc_code_skip (vq_then (vk1 0 (vc_seq (vc_region ?_))))
  refine ym ?_
  refine vc_e (e_call [_] rfl rfl call10 rfl (Pq.parse_any s _ (SigAt.kept hsg st.chg (by simp))) ?_)
  rintro _ w h
  rw [Pq.ParsePost, hR] at h
  dsimp only at h
  obtain ⟨cw, _, ⟨os1, ol1, ot1, cs1, cl1, ct1, Sq1, rfl, hQ1, hN⟩, rfl⟩ := h
  have hNw1 := hN.le st.chg.size
  replace st := st.pushR cw (Sx.holds_pg hQ1) hN.2
  refine ym ?_
  iterate 3 refine vy (y_ext rfl rfl) ?_
  refine vc_e (e_al (l := [_, _, _]) st rfl rfl zeroValue26 rfl ?_)
  intro b3 w hb3 st
  refine vc_e (e_al (l := [_, _]) st rfl rfl zeroValue29 rfl ?_)
  intro b5 w hb5 st
  refine vc_e (e_sts (vs := [_, _, _]) st 1 rfl rfl rfl rfl rfl sizeOf26 rfl rfl (by (right; assumption)) ?_)
  intro w st; dsimp only [setNth, wr] at st
  refine ya ?_
  refine vc_e (e_sts (vs := [_, _]) st 0 rfl rfl rfl rfl rfl sizeOf29 rfl rfl (by (right; assumption)) ?_)
  intro w st; dsimp only [setNth, wr] at st
  refine vc_end (vq_then (vk2 3 4 (vc_seq (vc_seq (vc_region ?_)))))
  refine ym ?_
  refine vy (y_nei rfl rfl) ?_
  refine vc_end (vq_then (vk2 3 22 ?_))
  refine vc_ifs rfl ?_ ?_
  ·intro hc22
   try simp only [dn] at hc22
   have hp0 := parse_not hR (by omega)
   refine vc_seq (vc_region ?_)
   refine yfz 2 underlying26 sizeOf24 ?_
   refine yl st 1 isAgg24 ?_
   refine vy (y_lensl rfl underlying24) ?_
   refine vy (y_eqi rfl rfl) ?_
   refine ya ?_
   refine vc_end (vq_then (vk1 2 (vc_ret (vq_then_ret ?_))))
   refine vq_ret1 st (.inl rfl) results3 (.tmp rfl) ?_
   refine ⟨_, rfl, ?_⟩
   refine ⟨?_, st.chg⟩
   rw [hp0]; rfl
  ·intro hc22
   try simp only [dn] at hc22
   have he1 : e1 = 0 := by omega
   subst he1
   obtain ⟨hpg, -⟩ := parse_right hR
   obtain ⟨t, e2, hpr⟩ : ∃ s e1, pgRes p = (s, e1) := ⟨_, _, rfl⟩
   refine vc_code_skip (vq_then (vk1 3 (vc_seq (vc_region ?_))))
   refine yla st 1 [_, _, _] isAgg26 sizeOf26 ?_
   refine vc_e (e_call [_] rfl rfl call11 rfl (wprintP_any p _ _ _ _ _ _ _ (pg_rows (st.res (i := 2) rfl).1).1 (pg_rows (st.res (i := 2) rfl).1).2.1 (pg_rows (st.res (i := 2) rfl).1).2.2 hok (hsg.kept st.chg) hlen) ?_)
   rintro _ w ⟨rfl, cw⟩
   replace st := st.call0 cw
   rw [hpr]
   refine ym ?_
   iterate 2 refine vy (y_ext rfl rfl) ?_
   iterate 2 refine ya ?_
   refine vc_end (vq_then (vk3 3 4 6 (vc_seq (vc_seq (vc_region ?_)))))
   refine ym ?_
   refine vy (y_nei rfl rfl) ?_
   refine vc_end (vq_then (vk4 3 4 6 33 ?_))
   refine vc_ifs rfl ?_ ?_
   ·intro hc33
    try simp only [dn] at hc33
    have h4 : e2 = 4 := by
     have h1 := (pgRes_not hpr (by omega)).2
     have h2 : e2 ≠ 40 := by intro h; subst h; unfold pgRes at hpr; rw [if_pos hpg] at hpr; split at hpr <;> simp at hpr
     omega
    refine vc_seq (vc_region ?_)
    refine ym ?_
    refine vy (y_eqi rfl rfl) ?_
    refine ya ?_
    refine vc_end (vq_then (vk1 2 (vc_ret (vq_then_ret ?_))))
    refine vq_ret1 st (.inl rfl) results3 (.tmp rfl) ?_
    refine ⟨_, rfl, ?_⟩
    refine ⟨?_, st.chg⟩
    rw [h4]; rfl
   ·intro hc33
    try simp only [dn] at hc33
    have he2 : e2 = 0 := by omega
    subst he2
    obtain ⟨-, hln, rfl⟩ := pgRes_zero hpr
    obtain ⟨q, hq, hz⟩ := parse_printed hpg hok hln
    have hqr := pgRes_z hz
    have hokq := okP_z hq
    have hlq := parse_lens hq
    have hlr : laidRes p = (q, 0) := by unfold laidRes; rw [hpr, hq]; rfl
    refine vc_code_skip (vq_then (vk2 3 6 (vc_seq (vc_region ?_))))
    refine ym ?_
    refine vc_e (e_call [_] rfl rfl call10 rfl (Pq.parse_any (pgT p) _ (SigAt.kept hsg st.chg (by simp))) ?_)
    rintro _ w h
    rw [Pq.ParsePost, hq] at h
    dsimp only at h
    obtain ⟨cw, _, ⟨os2, ol2, ot2, cs2, cl2, ct2, Sq2, rfl, hQ2, hN⟩, rfl⟩ := h
    have hNw2 := hN.le st.chg.size
    replace st := st.pushR cw (Sx.holds_pg hQ2) hN.2
    refine ym ?_
    iterate 3 refine vy (y_ext rfl rfl) ?_
    refine vc_e (e_al (l := [_, _, _]) st rfl rfl zeroValue26 rfl ?_)
    intro b7 w hb7 st
    refine vc_e (e_al (l := [_, _]) st rfl rfl zeroValue29 rfl ?_)
    intro b8 w hb8 st
    refine vc_e (e_sts (vs := [_, _, _]) st 1 rfl rfl rfl rfl rfl sizeOf26 rfl rfl (by (right; assumption)) ?_)
    intro w st; dsimp only [setNth, wr] at st
    refine ya ?_
    refine vc_e (e_sts (vs := [_, _]) st 0 rfl rfl rfl rfl rfl sizeOf29 rfl rfl (by (right; assumption)) ?_)
    intro w st; dsimp only [setNth, wr] at st
    refine vc_end (vq_then (vk4 3 4 6 7 (vc_seq (vc_region ?_))))
    refine yla st 1 [_, _, _] isAgg26 sizeOf26 ?_
    refine vc_e (e_call [_] rfl rfl call11 rfl (wprintP_any q _ _ _ _ _ _ _ (pg_rows (st.res (i := 2) rfl).1).1 (pg_rows (st.res (i := 2) rfl).1).2.1 (pg_rows (st.res (i := 2) rfl).1).2.2 hokq (hsg.kept st.chg) hlq) ?_)
    rintro _ w ⟨rfl, cw⟩
    replace st := st.call0 cw
    rw [hqr, hpr]
    refine ym ?_
    iterate 2 refine vy (y_ext rfl rfl) ?_
    iterate 2 refine ya ?_
    refine vc_end (vq_then (vk6 3 4 6 7 9 10 (vc_seq (vc_region ?_))))
    refine yla st 4 [_, _, _] isAgg26 sizeOf26 ?_
    refine vc_e (e_call [_] rfl rfl call12 rfl (plaid_any p _ _ _ _ _ _ _ (pg_rows (st.res (i := 5) rfl).1).1 (pg_rows (st.res (i := 5) rfl).1).2.1 (pg_rows (st.res (i := 5) rfl).1).2.2 hok (hsg.kept st.chg) hlen) ?_)
    rintro _ w ⟨_, rfl, ⟨os3, ol3, ot3, cs3, cl3, ct3, Sq3, rfl, hQ3, hN⟩, cw⟩
    rw [hlr] at hQ3 ⊢
    replace st := st.pushR cw (Sx.holds_pg hQ3) hN.2
    refine ym ?_
    iterate 2 refine vy (y_ext rfl rfl) ?_
    refine vc_e (e_al (l := [_, _, _]) st rfl rfl zeroValue26 rfl ?_)
    intro b11 w hb11 st
    refine vc_e (e_sts (vs := [_, _, _]) st 0 rfl rfl rfl rfl rfl sizeOf26 rfl rfl (by (right; assumption)) ?_)
    intro w st; dsimp only [setNth, wr] at st
    refine ya ?_
    refine vc_end (vq_then (vk7 4 6 7 9 10 11 12 (vc_seq (vc_region ?_))))
    refine ym ?_
    refine vy (y_eqi rfl rfl) ?_
    refine vmb ?_ ?_
    ·intro hg54
     try simp only [dn] at hg54
     refine ym ?_
     refine vy (y_eqi rfl rfl) ?_
     refine ypt ?_
     refine vmb ?_ ?_
     ·intro hg58
      try simp only [dn] at hg58
      iterate 2 refine ym ?_
      refine vy (y_eqs rfl rfl) ?_
      refine ypt ?_
      refine vmb ?_ ?_
      ·intro hg63
       try simp only [dn] at hg63
       refine ym ?_
       refine vy (y_eqi rfl rfl) ?_
       refine ypt ?_
       refine vmb ?_ ?_
       ·intro hg67
        try simp only [dn] at hg67
        refine yla st 0 [_, _, _] isAgg26 sizeOf26 ?_
        refine yla st 3 [_, _, _] isAgg26 sizeOf26 ?_
        refine vc_e (e_call [_, _] rfl rfl call13 rfl (rexactly_any (S := fun _ => True) q q hokq _ _ _ _ _ _ _ _ _ _ _ _ _ (pgS_rows (st.res (i := 1) rfl).1).1 (pgS_rows (st.res (i := 1) rfl).1).2.1 (pgS_rows (st.res (i := 1) rfl).1).2.2 (pgS_rows (st.res (i := 4) rfl).1).1 (pgS_rows (st.res (i := 4) rfl).1).2.1 (pgS_rows (st.res (i := 4) rfl).1).2.2) ?_)
        rintro _ w ⟨rfl, cw⟩
        replace st := st.call0 cw
        rw [exactP_refl]
        refine ypt ?_
        refine ya ?_
        refine vc_end (vq_then (vk1 2 (vc_ret ?_)))
        refine vq_ret1 st (.inl rfl) results3 (.tmp rfl) ?_
        refine ⟨_, rfl, ?_⟩
        exact ⟨rfl, st.chg⟩
       ·intro hg67
        simp at hg67
      ·intro hg63
       simp at hg63
     ·intro hg58
      simp at hg58
    ·intro hg54
     exact absurd hg54 (by decide)

end Go.Proofs.YtnmhlpnapgojjaaGreatDoor

