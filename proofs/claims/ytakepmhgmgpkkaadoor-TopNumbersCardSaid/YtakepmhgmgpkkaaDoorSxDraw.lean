/- The engine, fourth part: a statement whose order is drawn. -/
import Derived.Test.YtakepmhgmgpkkaaDoorSxCtl
namespace Sx
open Go Go.RowKit
set_option linter.unusedVariables false
set_option linter.unusedSimpArgs false

/-- a panic's post does not look at the temporaries -/
def okQ (Q : Exit → Act → World → Prop) : Prop := ∀ c (a a' : Act) w, a.defers = a'.defers → Q (.panic c) a w → Q (.panic c) a' w
theorem okQ_then {K' : Act → World → Prop} {Q : Exit → Act → World → Prop} (h : okQ Q) : okQ (Exit.then K' Q) := h
theorem okQ_block {i : Nat} {Q : Exit → Act → World → Prop} (h : okQ Q) : okQ (Exit.inBlock i Q) := h
theorem okQ_body {P : Program} {fn : Func} {R : Ending → World → Prop} : okQ (bodyPost P fn R) := fun c a a' w h ⟨h1, h2⟩ => ⟨h ▸ h1, h2⟩

def planD (L : Array Oper) : List (Nat × Bool) → Array Bool → Bool
  | [], listed => (Region.ready .any L listed).isEmpty
  | (i, true) :: r, listed => (Region.ready .any L listed).contains i && Region.free .any L listed i && planD L r (listed.setIfInBounds i true)
  | (i, false) :: r, listed => (Region.ready .any L listed == [i]) && planD L r (listed.setIfInBounds i true)

section
variable {P : Program} {n : Fr} {L : List Oper} {Q : Exit → Act → World → Prop} {kn : Kn} {w : World} {S : World → Prop}

def vP (P : Program) (n : Fr) (L : List Oper) (Q : Exit → Act → World → Prop) (S : World → Prop) (plan : List (Nat × Bool)) (kn : Kn) (w : World) : Prop :=
  ∀ a listed, okQ Q → Region.noSelect L.toArray = true → K n kn a → planD L.toArray plan listed = true → wpAnyH P .any L.toArray Q S plan.length listed a w

def NP (P : Program) (L : List Oper) (Q : Exit → Act → World → Prop) (S : World → Prop) (plan : List (Nat × Bool)) (a : Act) (w : World) : Prop :=
  S w ∧ (okQ Q → Region.noSelect L.toArray = true → ∀ listed, planD L.toArray plan listed = true → wpAnyH P .any L.toArray Q S plan.length listed a w)

theorem vp_next {plan : List (Nat × Bool)} (hS : S w) (h : S w → vP P n L Q S plan kn w) : vN n (NP P L Q S plan) kn w := fun a ha => ⟨hS, fun hQ hsel listed hl => h hS a listed hQ hsel ha hl⟩

theorem vp_end (h : vcQ n Q .normal kn w) : vP P n L Q S [] kn w := fun a listed hQ hsel ha hl => by
  simp only [planD, List.isEmpty_iff] at hl
  exact ⟨hl, h a ha⟩

theorem put_defers (a : Act) (d : Option Nat) (v : Value) : (a.put d v).defers = a.defers := by cases d <;> rfl

theorem vp_take {i : Nat} {o : Oper} {v : Value} {r : List (Nat × Bool)} (hi : nth L i = some o) (hw : gd L kn o.guard = some true) (hd : okDst n o.dst = true)
    (hS : S w) (y : ∀ w', S w' → Y P n kn w' o v) (next : vP P n L Q S r (put o.dst v kn) w) : vP P n L Q S ((i, true) :: r) kn w := by
  intro a listed hQ hsel ha hl
  simp only [planD, Bool.and_eq_true] at hl
  rw [nth_eq] at hi
  exact wpAnyH_take (oi := o) (v := v) (by simpa using hi) hsel hl.1.2 hl.1.1 (fun c a w h => hQ c _ _ w (put_defers _ _ _) h)
    (.inl ⟨ha.gd hw, fun w' hS' => y w' hS' a ha⟩) hS (next _ _ hQ hsel (ha.put hd v) hl.2)

theorem vp_skip {i : Nat} {o : Oper} {r : List (Nat × Bool)} (hi : nth L i = some o) (hw : gd L kn o.guard = some false) (hd : okDst n o.dst = true)
    (hS : S w) (next : vP P n L Q S r (put o.dst undef kn) w) : vP P n L Q S ((i, true) :: r) kn w := by
  intro a listed hQ hsel ha hl
  simp only [planD, Bool.and_eq_true] at hl
  rw [nth_eq] at hi
  exact wpAnyH_take (oi := o) (v := undef) (by simpa using hi) hsel hl.1.2 hl.1.1 (fun c a w h => hQ c _ _ w (put_defers _ _ _) h)
    (.inr ⟨ha.gd hw, rfl⟩) hS (next _ _ hQ hsel (ha.put hd undef) hl.2)

/-- a bool on which later operations hang: parted -/
theorem vp_part {i d ty : Nat} {pos : String} {aft : Array Edge} {g : Option (Nat × Bool)} {x : Operand} {b : Bool} {r : List (Nat × Bool)} 
    (hi : nth L i = some ⟨some d, .move x, ty, pos, aft, g⟩) (hw : gd L kn g = some true) (hd : okDst n (some d) = true) (hS : S w) (hx : evO kn x = some (.bool b))
    (h1 : b = true → vP P n L Q S r ((d, .bool true) :: kn) w) (h2 : b = false → vP P n L Q S r ((d, .bool false) :: kn) w) : vP P n L Q S ((i, true) :: r) kn w := by
  refine vp_take hi hw hd hS (fun w' _ => y_mv hx) ?_
  cases b
  · exact h2 rfl
  · exact h1 rfl

theorem vp_do {i : Nat} {o : Oper} {r : List (Nat × Bool)} (hi : nth L i = some o) (e : vS P n L Q o (NP P L Q S r) kn w) : vP P n L Q S ((i, false) :: r) kn w := by
  intro a listed hQ hsel ha hl
  simp only [planD, Bool.and_eq_true, beq_iff_eq] at hl
  rw [nth_eq] at hi
  refine wpAnyH_all hl.1 (by simp) (fun j hj => ?_)
  obtain rfl : j = i := by simpa using hj
  have he := e a ha
  unfold wpOp
  simp only [List.getElem?_toArray, hi]
  split
  · rename_i hw
    rw [if_pos hw] at he
    exact he.imp (Oper.wp_mono (fun a' w' h => ⟨h.1, h.2 hQ hsel _ hl.2⟩)) id
  · rename_i hw
    rw [if_neg hw] at he
    exact ⟨he.1, he.2 hQ hsel _ hl.2⟩

theorem vc_draw {id : Nat} (hm : P.follows .mixedOrders = true) (plan : List (Nat × Bool)) (S : World → Prop) (hS0 : S w) (hsel : Region.noSelect L.toArray = true) (hQ : okQ Q) (hlen : plan.length = L.length) (hplan : planD L.toArray plan (Array.replicate L.length false) = true)
    (h : ∀ w', Chg [] w w' → vP P n L Q S plan kn w') : vcC P n (.region id L.toArray true) Q kn w := by
  intro a ha
  refine wp_region_held (S := S) hm ?_
  have := h w.drew (Chg.drew w) a (Array.replicate L.length false) hQ hsel ha hplan
  rw [hlen] at this
  rw [List.size_toArray]
  exact this
end
end Sx
