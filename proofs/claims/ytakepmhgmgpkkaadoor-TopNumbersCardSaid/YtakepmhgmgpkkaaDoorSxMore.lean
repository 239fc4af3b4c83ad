/- The engine, sixth part: loads from a row that is owned. -/
import Derived.Test.YtakepmhgmgpkkaaDoorSxApp
import Derived.Laws.OwnMore
import Derived.Laws.StructEq
namespace Sx
open Go Go.RowKit
set_option linter.unusedVariables false
set_option linter.unusedSimpArgs false
section
variable {w0 w w' : World} {M : List Nat} {hs : List Res}
variable {P : Program} {n : Fr} {L : List Oper} {Q : Exit → Act → World → Prop} {kn : Kn} {N : Act → World → Prop}
variable {d ty : Nat} {pos : String} {aft : Array Edge} {g : Option (Nat × Bool)}

theorem own_cell {base e size len cap b off : Nat} {xs : List Value} {v : Value} (h : w.ownsRow base e size (.slice (some ⟨b, 0, none⟩) len cap) len xs) (hv : xs[off]? = some v) : w.cell? ⟨b, off, none⟩ = some v := by
  have hl : off < xs.length := (List.getElem?_eq_some_iff.1 hv).1
  rw [World.ownsRow.cellAt h off (by rw [← h.1]; exact hl), hv]

theorem y_ldo (st : St w0 M hs w) (i : Nat) {x : Operand} {T b off e size len cap : Nat} {xs : List Value} {v : Value} (hx : evO kn x = some (.pointer (some ⟨b, off, none⟩)))
  (ha : ∀ w, (Go.isAgg T).run P w = .ok false w) (hi : nth hs i = some (.own (.slice (some ⟨b, 0, none⟩) len cap) e size len xs)) (hv : xs[off]? = some v) : Y P n kn w ⟨some d, .load T x, ty, pos, aft, g⟩ v :=
  y_ldc hx ha (own_cell (st.res hi) hv)

theorem y_ldoa (st : St w0 M hs w) (i : Nat) {x : Operand} {T b off e size len cap sz : Nat} {xs : List Value} {vs : List Value} (hx : evO kn x = some (.pointer (some ⟨b, off, none⟩)))
  (ha : ∀ w, (Go.isAgg T).run P w = .ok true w) (hsz : ∀ w, (Go.sizeOf T).run P w = .ok sz w) (hi : nth hs i = some (.own (.slice (some ⟨b, 0, none⟩) len cap) e size len xs)) (hl : vs.length = sz)
  (hv : ∀ j v, vs[j]? = some v → xs[off + j]? = some v) : Y P n kn w ⟨some d, .load T x, ty, pos, aft, g⟩ (.agg vs.toArray) :=
  y_ldca vs hx ha hsz hl (fun j v hj => own_cell (st.res hi) (hv j v hj))

theorem own_form {base e size n : Nat} {v : Value} {xs : List Value} (h : w.ownsRow base e size v n xs) (hn : 0 < n) :
    ∃ g cap, v = .slice (some ⟨g, 0, none⟩) n cap ∧ base ≤ g := by
  rcases h.2 with ⟨_, h0⟩ | ⟨g, cap, cur, hv, hb, hg, _⟩
  · omega
  · exact ⟨g, cap, hv, hb⟩

end
end Sx
