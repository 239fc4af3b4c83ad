/- The engine, sixteenth part: arrays that are values; arrays in memory; the neg of a number. -/
import Derived.Test.YtakepmhgmgpkkaaDoorSxMore4
namespace Sx
open Go Go.RowKit
set_option linter.unusedVariables false
set_option linter.unusedSimpArgs false
section
variable {w0 w w' : World} {M : List Nat} {hs : List Res}
variable {P : Program} {n : Fr} {L : List Oper} {Q : Exit → Act → World → Prop} {kn : Kn} {N : Act → World → Prop}
variable {d ty : Nat} {pos : String} {aft : Array Edge} {g : Option (Nat × Bool)}

theorem y_neg {T : Nat} {x : Operand} {k : IntKind} {p r : Int} (hx : evO kn x = some (.int k p)) (hr : k.wrap (0 - p) = r) : Y P n kn w ⟨some d, .unOp .neg T x, ty, pos, aft, g⟩ (.int k r) := fun a ha => by
  subst hr
  simp only [execOp, ha.ev hx]
  simp [Op.unary, Op.intArith, go_sem]
theorem run_part1 {T off : Nat} {cs : List Value} {v : Value} (ha : ∀ w, (Go.isAgg T).run P w = .ok false w) (hv : nth cs off = some v) : (part T cs.toArray off).run P w = .ok v w := by
  rw [nth_eq] at hv
  unfold part
  simp [ha, hv]
theorem run_partA {T off sz : Nat} {cs vs : List Value} (ha : ∀ w, (Go.isAgg T).run P w = .ok true w) (hs : ∀ w, (Go.sizeOf T).run P w = .ok sz w) (hv : takeN sz (dropN cs off) = some vs) : (part T cs.toArray off).run P w = .ok (.agg vs.toArray) w := by
  obtain ⟨h1, h2⟩ := takeN_spec hv
  rw [dropN_eq] at h1
  unfold part
  simp [ha, hs, h1]
/-- a field of a struct that is a value -/
theorem y_fld {T i off : Nat} {x : Operand} {cs : List Value} {fs : Array Field} {f : Field} {v : Value} (hx : evO kn x = some (.agg cs.toArray)) (ht : P.underlying T = some (.struct fs)) (hf : nth fs.toList i = some f) (ho : f.offset = off)
    (ha : ∀ w, (Go.isAgg f.type).run P w = .ok false w) (hv : nth cs off = some v) : Y P n kn w ⟨some d, .field T x i, ty, pos, aft, g⟩ v := fun a hk => by
  subst ho
  rw [nth_eq] at hf
  have hf' : fs[i]? = some f := by simpa using hf
  simp only [execOp, hk.ev hx]
  simp [Instr.field, run_underlying ht, hf', asAgg, run_part1 ha hv]
/-- an element of an array that is a value -/
theorem y_ixa {T E i sz len : Nat} {x ix : Operand} {ik : IntKind} {ii : Int} {cs vs : List Value} (hx : evO kn x = some (.agg cs.toArray)) (hix : evO kn ix = some (.int ik ii)) (ht : P.underlying T = some (.array len E)) (hs : ∀ w, (Go.sizeOf E).run P w = .ok sz w)
    (hi : ii = (i : Int)) (hlt : Nat.blt i len = true) (ha : ∀ w, (Go.isAgg E).run P w = .ok true w) (hv : takeN sz (dropN cs (i * sz)) = some vs) : Y P n kn w ⟨some d, .index T x ix, ty, pos, aft, g⟩ (.agg vs.toArray) := fun a hk => by
  subst hi
  have h2 : (i : Int) < (len : Int) := by have : i < len := by simpa [Nat.blt_eq] using hlt
                                          omega
  simp only [execOp, hk.ev hx, hk.ev hix]
  simp [Instr.index, asIntOf, run_underlying ht, hs, h2, run_partA ha hs hv]
  intro; omega
/-- a[i:] of an array in memory -/
theorem y_sla {T E i sz len b off : Nat} {x lo : Operand} {ik : IntKind} {ii : Int} (hx : evO kn x = some (.pointer (some ⟨b, off, none⟩))) (hlo : evO kn lo = some (.int ik ii)) (ht : P.underlying T = some (.array len E))
    (hs : ∀ w, (Go.sizeOf E).run P w = .ok sz w) (hi : ii = (i : Int)) (hlt : i < len) : Y P n kn w ⟨some d, .slice T x (some lo) none none, ty, pos, aft, g⟩ (.slice (some ⟨b, off + i * sz, none⟩) (len - i) (len - i)) := fun a hk => by
  subst hi
  have h1 : i ≤ len := by omega
  have h2 : ¬ len = i := by omega
  simp only [execOp, Option.map_some, Option.map_none, hk.ev hx, hk.ev hlo]
  simp [Instr.sliceAt, Instr.sliceBounds, Instr.sliceBound, asIntOf, run_underlying ht, Instr.sureAddr, h1, h2, hs, addr_add]
/-- a store into a block that is known, at a place that is reckoned -/
theorem e_sta (st : St w0 M hs w) (i : Nat) {x y : Operand} {T b off E : Nat} {l l' : List Value} {v : Value} (hw : gd L kn g = some true) (hx : evO kn x = some (.pointer (some ⟨b, off, none⟩)))
    (hy : evO kn y = some v) (h1 : v.oneCell' = true) (hsz : ∀ w, (Go.sizeOf T).run P w = .ok 1 w)
    (hi : nth hs i = some (.blk b (.cells l.toArray E (0, 0)))) (hlt : off < l.length) (hl : l.set off v = l') (hm : b ∈ M ∨ w0.heap.size ≤ b)
    (next : ∀ w', St w0 M (setNth hs i (.blk b (.cells l'.toArray E (0, 0)))) w' → vN n N kn w') : vS P n L Q (⟨none, .store T x y, ty, pos, aft, g⟩) N kn w := by
  refine e_st st i hw hx hy h1 hsz hi (by simpa [Nat.blt_eq] using hlt) hm (fun w' st' => next w' ?_)
  rw [setNth_eq l off v, hl] at st'
  exact st'
end
end Sx
