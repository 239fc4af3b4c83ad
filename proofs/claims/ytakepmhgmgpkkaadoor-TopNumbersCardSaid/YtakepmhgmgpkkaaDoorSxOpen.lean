/- The engine, fourteenth part: arguments opened, and shut as they were. -/
import Derived.Test.YtakepmhgmgpkkaaDoorSxMore4
import Derived.WalkKit
import Derived.ProofKit
import Derived.OpenShut
import Derived.ChangeOld
import Derived.OpenVars
import Derived.Below
namespace Sx
open Go Go.RowKit
set_option linter.unusedVariables false
set_option linter.unusedSimpArgs false

theorem exists_list {α : Type} (d : α) : ∀ (n : Nat) (P : Nat → α → Prop), (∀ i, i < n → ∃ x, P i x) → ∃ l : List α, l.length = n ∧ ∀ i, i < n → P i (l.getD i d)
  | 0, P, h => ⟨[], rfl, fun i hi => by omega⟩
  | n + 1, P, h => by
    obtain ⟨x, hx⟩ := h 0 (by omega)
    obtain ⟨l, hl, hP⟩ := exists_list d n (fun i => P (i + 1)) (fun i hi => h (i + 1) (by omega))
    refine ⟨x :: l, by simp [hl], fun i hi => ?_⟩
    cases i with
    | zero => simpa using hx
    | succ i => simpa using hP i (by omega)

section
variable {H : Type} {enc : TypeId × Value → H} {P : Program}

theorem trod_shut (hl : laidOutB P = true) {w w' : World} (hb : Below w.heap.size w w') {t : TypeId} {v : Value} {d : DataW H} {ps : List MemPlace} (hr : P.readableRec t = true) (ht : t < P.types.size)
    (h : DataW.Trod enc P w 0 (fun _ => true) true t v d ps) (hlt : ∀ x ∈ ps, x.block < w.heap.size) : DataW.Trod enc P w' 0 (fun b => decide (b < w.heap.size)) true t v d ps := by
  obtain ⟨fuel, hf⟩ := h
  exact ⟨fuel, DataW.trod_stays (kids_book hl hr) (book_sized hr) (fun h => by cases h) ⟨ht, book_self t⟩ hf (fun x hx => hb.same (hlt x hx)) (fun x hx => by simpa using hlt x hx)⟩

/-- all arguments read as they did, where nothing that was there has changed -/
theorem trodAll_shut (hl : laidOutB P = true) {w w' : World} (hb : Below w.heap.size w w') : ∀ {ts : List TypeId} {vs : List Value} {ds : List (DataW H)} {ps : List MemPlace}, (ts.all fun t => P.readableRec t && decide (t < P.types.size)) = true →
    DataW.TrodAll enc P w 0 (fun _ => true) true ts vs ds ps → (∀ x ∈ ps, x.block < w.heap.size) → DataW.TrodAll enc P w' 0 (fun b => decide (b < w.heap.size)) true ts vs ds ps
  | [], [], [], ps, _, h, _ => h
  | t :: ts, v :: vs, d :: ds, ps, hr, h, hlt => by
    obtain ⟨p, q, h1, h2, rfl⟩ := h
    simp only [List.all_cons, Bool.and_eq_true, decide_eq_true_eq] at hr
    exact ⟨p, q, trod_shut hl hb hr.1.1 hr.1.2 h1 (fun x hx => hlt x (List.mem_append.2 (.inl hx))), trodAll_shut hl hb (by simpa using hr.2) h2 (fun x hx => hlt x (List.mem_append.2 (.inr hx))), rfl⟩
  | [], [], _ :: _, _, _, h, _ => h.elim
  | [], _ :: _, _, _, _, h, _ => h.elim
  | _ :: _, [], _, _, _, h, _ => h.elim
  | _ :: _, _ :: _, [], _, _, h, _ => h.elim

theorem okWide_slice {w : World} {r : Reach} {b0 : Nat} {t e : TypeId} {v : Value} (ht : P.underlying t = some (.slice e)) (hval : Value.okWide P w r b0 t v) : ∃ oa len cap, v = .slice oa len cap ∧ (oa = none → len = 0 ∧ cap = 0) := by
  simp only [Value.okWide, ht, Cell.okWide, Cell.ok] at hval
  cases v <;> first | exact hval.elim | skip
  rename_i oa len cap
  refine ⟨oa, len, cap, rfl, fun h => ?_⟩
  subst h
  cases len <;> cases cap <;> first | exact ⟨rfl, rfl⟩ | exact hval.elim

/-- a slice of structs -/
theorem open_row {w : World} {fuel : Nat} {t e : TypeId} {sz : Nat} {v : Value} {d : DataW H} {ps : List MemPlace} (ht : P.underlying t = some (.slice e)) (hsz : P.cellsOf e = sz) (h0 : 0 < sz)
    (h : DataW.trod enc P w 0 (fun _ => true) true fuel t [v] = some (d, ps)) : ∃ (oa : Option Addr) (len cap n : Nat) (elems rest : List (DataW H)), v = .slice oa len cap ∧ elems.length = len ∧ len ≤ cap ∧ cap ≤ maxLen ∧ n < fuel ∧
      ((d = .nil ∧ len = 0 ∧ cap = 0 ∧ oa = none) ∨ d = .slice elems rest) ∧ (len = 0 ∨ ∃ b off, oa = some ⟨b, off, none⟩ ∧ ∀ j, j < len → ∃ cs pp dd, cs.length = sz ∧ elems[j]? = some dd ∧ DataW.trod enc P w 0 (fun _ => true) true n e cs = some (dd, pp) ∧
        ∀ i u, cs[i]? = some u → w.cell? ⟨b, off + j * sz + i, none⟩ = some u) := by
  rcases DataW.trod_slice ht h with ⟨hc, hx⟩ | ⟨a, len, cap, elems, rest, n, rfl, hc, hx, hb, hlc, hcm, hlen, hel, -⟩
  · simp only [List.cons.injEq, and_true] at hc
    subst hc
    simp only [Prod.mk.injEq] at hx
    have hf : 0 < fuel := by
      cases fuel with
      | zero => simp [DataW.trod] at h
      | succ m => omega
    exact ⟨none, 0, 0, 0, [], [], rfl, rfl, Nat.le_refl _, Nat.zero_le _, hf, .inl ⟨hx.1, rfl, rfl, rfl⟩, .inl rfl⟩
  · simp only [List.cons.injEq, and_true] at hc
    subst hc
    simp only [Prod.mk.injEq] at hx
    refine ⟨some a, len, cap, n, elems.map (·.1), rest.map (·.1), rfl, by simpa using hlen, hlc, hcm, by omega, .inr hx.1, ?_⟩
    rcases Nat.eq_zero_or_pos len with hl0 | hl0
    · exact .inl hl0
    right
    have each : ∀ j, j < len → ∃ cs pp dd, cs.length = sz ∧ (elems.map (·.1))[j]? = some dd ∧ DataW.trod enc P w 0 (fun _ => true) true n e cs = some (dd, pp) ∧ ∀ i u, cs[i]? = some u → w.cell? ((a.add (j * sz)).add i) = some u := by
      intro j hj
      have h1 := hel j hj
      rw [hsz, List.getElem?_eq_getElem (by omega : j < elems.length), Option.bind_eq_some_iff] at h1
      obtain ⟨cs, hcs, htr⟩ := h1
      obtain ⟨-, hcl, hcell⟩ := World.cells?_some hcs
      refine ⟨cs, elems[j].2, elems[j].1, hcl, by simp [List.getElem?_eq_getElem (by omega : j < elems.length)], htr, fun i u hi => ?_⟩
      have hlt : i < sz := by have := (List.getElem?_eq_some_iff.1 hi).1; omega
      rw [hcell i hlt, hi]
    obtain ⟨b, off, spot⟩ := a
    have hspot : spot = none := by
      obtain ⟨cs, pp, dd, hcl, -, -, hc⟩ := each 0 hl0
      have : 0 < cs.length := by omega
      have h2 := hc 0 cs[0] (by simp [this])
      rw [Nat.zero_mul, addr_add0, addr_add0] at h2
      exact World.cell?_spot h2
    subst hspot
    refine ⟨b, off, rfl, fun j hj => ?_⟩
    obtain ⟨cs, pp, dd, hcl, he, htr, hc⟩ := each j hj
    refine ⟨cs, pp, dd, hcl, he, htr, fun i u hi => ?_⟩
    have := hc i u hi
    rwa [addr_add, addr_add] at this
end
end Sx
