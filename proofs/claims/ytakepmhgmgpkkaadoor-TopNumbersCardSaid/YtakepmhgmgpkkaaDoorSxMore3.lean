/- The engine, twelfth part: slices of slices; what a row that is owned reads as. -/
import Derived.Test.YtakepmhgmgpkkaaDoorSxMore2
namespace Sx
open Go Go.RowKit
set_option linter.unusedVariables false
set_option linter.unusedSimpArgs false
section
variable {w0 w w' : World} {M : List Nat} {hs : List Res}
variable {P : Program} {n : Fr} {L : List Oper} {Q : Exit → Act → World → Prop} {kn : Kn} {N : Act → World → Prop}
variable {d ty : Nat} {pos : String} {aft : Array Edge} {g : Option (Nat × Bool)}

theorem addr_add0 (a : Addr) : a.add 0 = a := by unfold Addr.add; simp

/-- x[:j] of a slice -/
theorem y_slh {x hi : Operand} {T E sz j len cap : Nat} {oa : Option Addr} {jk : IntKind} {jj : Int} (hx : evO kn x = some (.slice oa len cap))
  (hhi : evO kn hi = some (.int jk jj)) (ht : P.underlying T = some (.slice E)) (hs : ∀ w, (Go.sizeOf E).run P w = .ok sz w) (hj1 : jj = (j : Int)) (hj : j ≤ cap) : Y P n kn w ⟨some d, .slice T x none (some hi) none, ty, pos, aft, g⟩ (.slice oa j cap) :=
  (fun a ha => by
    subst hj1
    have h2 : (j : Int) ≤ (cap : Int) := by omega
    simp only [execOp, Option.map_some, Option.map_none, ha.ev hx, ha.ev hhi]
    simp only [Instr.sliceAt, Instr.slice, Instr.sliceBounds, Instr.sliceBound, asIntOf, Sem.run_bind, run_underlying ht, Result.andThen_ok, hs]
    simp [hj, hs]
    intro _; cases oa <;> simp [addr_add0])
/-- x[i:] of a slice -/
theorem y_sll {x lo : Operand} {T E sz i len cap : Nat} {oa : Option Addr} {ik : IntKind} {ii : Int} (hx : evO kn x = some (.slice oa len cap))
  (hlo : evO kn lo = some (.int ik ii)) (ht : P.underlying T = some (.slice E)) (hs : ∀ w, (Go.sizeOf E).run P w = .ok sz w) (hi1 : ii = (i : Int)) (hi : i ≤ len) (hcap : len ≤ cap) : Y P n kn w ⟨some d, .slice T x (some lo) none none, ty, pos, aft, g⟩ (.slice (if cap = i then oa else oa.map fun x => x.add (i * sz)) (len - i) (cap - i)) :=
  (fun a ha => by
    subst hi1
    simp only [execOp, Option.map_some, Option.map_none, ha.ev hx, ha.ev hlo]
    simp only [Instr.sliceAt, Instr.slice, Instr.sliceBounds, Instr.sliceBound, asIntOf, Sem.run_bind, run_underlying ht, Result.andThen_ok, hs]
    simp [hi, hs])
end
end Sx
