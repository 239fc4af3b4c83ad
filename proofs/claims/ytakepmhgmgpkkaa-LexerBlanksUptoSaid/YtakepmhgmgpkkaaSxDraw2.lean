/- The engine, eighth part: a statement whose order is drawn, two operations at a time. -/
import Derived.Test.YtakepmhgmgpkkaaSxDraw
namespace Sx
open Go Go.RowKit
set_option linter.unusedVariables false
set_option linter.unusedSimpArgs false

inductive Pl where
  | done
  | take (i : Nat) (r : Pl)
  | one (i : Nat) (r : Pl)
  | two (i j : Nat) (r s : Pl)

def Pl.len : Pl → Nat
  | .done => 0
  | .take _ r => r.len + 1
  | .one _ r => r.len + 1
  | .two _ _ r _ => r.len + 1

def plOK (L : Array Oper) : Pl → Array Bool → Bool
  | .done, listed => (Region.ready .any L listed).isEmpty
  | .take i r, listed => (Region.ready .any L listed).contains i && Region.free .any L listed i && plOK L r (listed.setIfInBounds i true)
  | .one i r, listed => (Region.ready .any L listed == [i]) && plOK L r (listed.setIfInBounds i true)
  | .two i j r s, listed => (Region.ready .any L listed == [i, j]) && (r.len == s.len) && plOK L r (listed.setIfInBounds i true) && plOK L s (listed.setIfInBounds j true)

section
variable {P : Program} {n : Nat} {L : List Oper} {Q : Exit → Act → World → Prop} {kn : Kn} {w : World} {S : World → Prop}

def vD (P : Program) (n : Nat) (L : List Oper) (Q : Exit → Act → World → Prop) (S : World → Prop) (plan : Pl) (kn : Kn) (w : World) : Prop :=
  ∀ a listed, okQ Q → Region.noSelect L.toArray = true → K n kn a → plOK L.toArray plan listed = true → wpAnyH P .any L.toArray Q S plan.len listed a w

def ND (P : Program) (L : List Oper) (Q : Exit → Act → World → Prop) (S : World → Prop) (plan : Pl) (a : Act) (w : World) : Prop :=
  S w ∧ (okQ Q → Region.noSelect L.toArray = true → ∀ listed, plOK L.toArray plan listed = true → wpAnyH P .any L.toArray Q S plan.len listed a w)

theorem vd_next {plan : Pl} (hS : S w) (h : S w → vD P n L Q S plan kn w) : vN n (ND P L Q S plan) kn w := fun a ha => ⟨hS, fun hQ hsel listed hl => h hS a listed hQ hsel ha hl⟩

theorem vd_end (h : vcQ n Q .normal kn w) : vD P n L Q S .done kn w := fun a listed hQ hsel ha hl => by
  simp only [plOK, List.isEmpty_iff] at hl
  exact ⟨hl, h a ha⟩

theorem vd_take {i : Nat} {o : Oper} {v : Value} {r : Pl} (hi : nth L i = some o) (hw : gd L kn o.guard = some true) (hd : okDst n o.dst = true)
    (hS : S w) (y : ∀ w', S w' → Y P n kn w' o v) (next : vD P n L Q S r (put o.dst v kn) w) : vD P n L Q S (.take i r) kn w := by
  intro a listed hQ hsel ha hl
  simp only [plOK, Bool.and_eq_true] at hl
  rw [nth_eq] at hi
  exact wpAnyH_take (oi := o) (v := v) (by simpa using hi) hsel hl.1.2 hl.1.1 (fun c a w h => hQ c _ _ w (put_defers _ _ _) h)
    (.inl ⟨ha.gd hw, fun w' hS' => y w' hS' a ha⟩) hS (next _ _ hQ hsel (ha.put hd v) hl.2)

theorem vd_skip {i : Nat} {o : Oper} {r : Pl} (hi : nth L i = some o) (hw : gd L kn o.guard = some false) (hd : okDst n o.dst = true)
    (hS : S w) (next : vD P n L Q S r (put o.dst undef kn) w) : vD P n L Q S (.take i r) kn w := by
  intro a listed hQ hsel ha hl
  simp only [plOK, Bool.and_eq_true] at hl
  rw [nth_eq] at hi
  exact wpAnyH_take (oi := o) (v := undef) (by simpa using hi) hsel hl.1.2 hl.1.1 (fun c a w h => hQ c _ _ w (put_defers _ _ _) h)
    (.inr ⟨ha.gd hw, rfl⟩) hS (next _ _ hQ hsel (ha.put hd undef) hl.2)

theorem vd_part {i d ty : Nat} {pos : String} {aft : Array Edge} {g : Option (Nat × Bool)} {x : Operand} {b : Bool} {r : Pl} 
    (hi : nth L i = some ⟨some d, .move x, ty, pos, aft, g⟩) (hw : gd L kn g = some true) (hd : okDst n (some d) = true) (hS : S w) (hx : evO kn x = some (.bool b))
    (h1 : b = true → vD P n L Q S r ((d, .bool true) :: kn) w) (h2 : b = false → vD P n L Q S r ((d, .bool false) :: kn) w) : vD P n L Q S (.take i r) kn w := by
  refine vd_take hi hw hd hS (fun w' _ => y_mv hx) ?_
  cases b
  · exact h2 rfl
  · exact h1 rfl

theorem nd_op {i : Nat} {o : Oper} {r : Pl} {a : Act} {listed : Array Bool} (hi : nth L i = some o) (e : vS P n L Q o (ND P L Q S r) kn w) (ha : K n kn a) (hQ : okQ Q) (hsel : Region.noSelect L.toArray = true)
    (hl : plOK L.toArray r (listed.setIfInBounds i true) = true) : wpOp P L.toArray Q i (fun a' w' => S w' ∧ wpAnyH P .any L.toArray Q S r.len (listed.setIfInBounds i true) a' w') a w := by
  rw [nth_eq] at hi
  have he := e a ha
  unfold wpOp
  simp only [List.getElem?_toArray, hi]
  split
  · rename_i hw
    rw [if_pos hw] at he
    exact he.imp (Oper.wp_mono (fun a' w' h => ⟨h.1, h.2 hQ hsel _ hl⟩)) id
  · rename_i hw
    rw [if_neg hw] at he
    exact ⟨he.1, he.2 hQ hsel _ hl⟩

theorem vd_do {i : Nat} {o : Oper} {r : Pl} (hi : nth L i = some o) (e : vS P n L Q o (ND P L Q S r) kn w) : vD P n L Q S (.one i r) kn w := by
  intro a listed hQ hsel ha hl
  simp only [plOK, Bool.and_eq_true, beq_iff_eq] at hl
  refine wpAnyH_all hl.1 (by simp) (fun j hj => ?_)
  obtain rfl : j = i := by simpa using hj
  exact nd_op hi e ha hQ hsel hl.2

theorem vd_two {i j : Nat} {o p : Oper} {r s : Pl} (hi : nth L i = some o) (hj : nth L j = some p) (e : vS P n L Q o (ND P L Q S r) kn w) (f : vS P n L Q p (ND P L Q S s) kn w) : vD P n L Q S (.two i j r s) kn w := by
  intro a listed hQ hsel ha hl
  simp only [plOK, Bool.and_eq_true, beq_iff_eq] at hl
  obtain ⟨⟨⟨h1, h2⟩, h3⟩, h4⟩ := hl
  refine wpAnyH_all h1 (by simp) (fun k hk => ?_)
  have hk' : k = i ∨ k = j := by simpa using hk
  rcases hk' with rfl | rfl
  · exact nd_op hi e ha hQ hsel h3
  · rw [h2]; exact nd_op hj f ha hQ hsel h4

theorem vd_draw {id : Nat} (hm : P.follows .mixedOrders = true) (plan : Pl) (S : World → Prop) (hS0 : S w) (hsel : Region.noSelect L.toArray = true) (hQ : okQ Q) (hlen : plan.len = L.length) (hplan : plOK L.toArray plan (Array.replicate L.length false) = true)
    (h : ∀ w', Chg [] w w' → vD P n L Q S plan kn w') : vcC P n (.region id L.toArray true) Q kn w := by
  intro a ha
  refine wp_region_held (S := S) hm ?_
  have := h w.drew (Chg.drew w) a (Array.replicate L.length false) hQ hsel ha hplan
  rw [hlen] at this
  rw [List.size_toArray]
  exact this
end
end Sx
