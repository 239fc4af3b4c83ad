/- A part of the proof: contracts of functions and plain laws; each theorem says its own conditions. -/
import Derived.Test.YtnmhlpnapgojjaaGreatDoorPrettyBackK2
/- The engine, seventeenth part: a byte slice in a box that a closure holds. -/
namespace Sx
open Go Go.RowKit
set_option linter.unusedVariables false
set_option linter.unusedSimpArgs false
section
variable {w0 w w' : World} {M : List Nat} {hs : List Res} {E n0 T b n n' : Nat} {v v' : Value} {l l' : List UInt8} {xs xs' : List Value}

/-- a row that a callee has written on -/
def RowP (E : Nat) (v v' : Value) (n' : Nat) (xs' : List Value) (w w' : World) : Prop := w'.ownsRow 0 E 1 v' n' xs' ∧ Chg v.ownBlock.toList w w' ∧ ∀ k, v'.ownBlock = some k → v.ownBlock = some k ∨ w.heap.size ≤ k
theorem St.frnP (st : St w0 M hs w) {i : Nat} (hi : nth hs i = some (frn M w0.heap.size E v n xs)) (p : RowP E v v' n' xs' w w') : St w0 M (setNth hs i (frn M w0.heap.size E v' n' xs')) w' := by
  obtain ⟨⟨h1, h2⟩, -⟩ := st.res hi
  obtain ⟨p1, p2, p3⟩ := p
  refine st.swap hi p2 (by simp [Res.at?, frn]) (fun k hk => h2 k (by simpa using hk)) (fun k hk => ?_) (frn_holds p1 fun k hk => ?_)
  · simp only [Res.at?, frn, Option.mem_toList] at hk ⊢
    exact p3 k hk
  · rcases p3 k hk with h | h
    · exact h2 k h
    · exact .inr (Nat.le_trans st.chg.size h)
theorem St.frnInit (h : w.ownsRow 0 E 1 v n xs) : St w v.ownBlock.toList [frn v.ownBlock.toList w.heap.size E v n xs] w :=
  ⟨Chg.refl _ _, List.pairwise_singleton _ _, by
    intro r hr
    simp only [List.mem_singleton] at hr
    subst hr
    exact frn_holds h (fun k hk => .inl (Option.mem_toList.2 hk))⟩
theorem St.frnDone {v0 : Value} (st : St w0 v0.ownBlock.toList hs w) {i : Nat} (hi : nth hs i = some (frn v0.ownBlock.toList w0.heap.size E v n xs)) : RowP E v0 v n xs w0 w := by
  obtain ⟨⟨h1, h2⟩, -⟩ := st.res hi
  exact ⟨h1, st.chg, fun k hk => (h2 k hk).imp (fun h => by simpa using h) id⟩
theorem St.frnGet (st : St w0 M hs w) {i : Nat} (hi : nth hs i = some (frn M w0.heap.size E v n xs)) : w.ownsRow 0 E 1 v n xs := (st.res hi).1.1

theorem St.frnN (st : St w0 M hs w) {i : Nat} (hi : nth hs i = some (frn M w0.heap.size E v n xs)) (hM : ∀ k ∈ M, n0 ≤ k) (hn : n0 ≤ w0.heap.size) : ∀ k, v.ownBlock = some k → n0 ≤ k := fun k hk => by
  rcases (st.res hi).1.2 k hk with h | h
  · exact hM k h
  · omega
theorem St.split2 {q r s : Res} (st : St w0 M (q :: hs) w) (h1 : ∀ k ∈ r.at?, k ∈ q.at?) (h2 : ∀ k ∈ s.at?, k ∈ q.at?) (h3 : ∀ k ∈ r.at?, k ∉ s.at?) (hr : r.holds w0.heap.size w) (hs' : s.holds w0.heap.size w) : St w0 M (r :: s :: hs) w := by
  have hnd := List.pairwise_cons.1 st.nodup
  refine ⟨st.chg, List.pairwise_cons.2 ⟨fun x hx => ?_, List.pairwise_cons.2 ⟨fun x hx k hk => hnd.1 x hx k (h2 k hk), hnd.2⟩⟩, fun x hx => ?_⟩
  · rcases List.mem_cons.1 hx with rfl | hx
    · exact h3
    · exact fun k hk => hnd.1 x hx k (h1 k hk)
  · rcases List.mem_cons.1 hx with rfl | hx
    · exact hr
    · rcases List.mem_cons.1 hx with rfl | hx
      · exact hs'
      · exact st.here x (.tail _ hx)

def Bx (E n0 T b : Nat) (v : Value) (l : List UInt8) (w : World) : Prop := w.heap[b]? = some (.cells #[v] T (0, 0)) ∧ w.ownsRow 0 E 1 v l.length (bytesL l) ∧ n0 ≤ b ∧ ∀ k, v.ownBlock = some k → n0 ≤ k ∧ k ≠ b
def BxP (E n0 T b : Nat) (v v' : Value) (l' : List UInt8) (w w' : World) : Prop := Bx E n0 T b v' l' w' ∧ Chg (b :: v.ownBlock.toList) w w' ∧ ∀ k, v'.ownBlock = some k → v.ownBlock = some k ∨ w.heap.size ≤ k
theorem Bx.lt (h : Bx E n0 T b v l w) : ∀ k ∈ b :: v.ownBlock.toList, k < w.heap.size := by
  obtain ⟨hb, ho, h1, h2⟩ := h
  intro k hk
  rcases List.mem_cons.1 hk with rfl | hk
  · exact (Array.getElem?_eq_some_iff.1 hb).1
  · exact (World.ownsRow.lt ho k (by simpa using hk)).2
theorem Bx.notin (h : Bx E n0 T b v l w) {k : Nat} (hk : k < n0) : k ∉ b :: v.ownBlock.toList := by
  obtain ⟨hb, ho, h1, h2⟩ := h
  intro h
  rcases List.mem_cons.1 h with rfl | h
  · omega
  · have := (h2 k (by simpa using h)).1; omega
/-- the box and its row, of the heads of what is held -/
theorem St.bxGet (st : St w0 M (.blk b (.cells [v].toArray T (0, 0)) :: frn M w0.heap.size E v l.length (bytesL l) :: hs) w) (hb : n0 ≤ b) (hn : ∀ k, v.ownBlock = some k → n0 ≤ k) : Bx E n0 T b v l w := by
  have h1 : w.heap[b]? = some (.cells #[v] T (0, 0)) := st.res (i := 0) rfl
  refine ⟨h1, (st.res (i := 1) rfl).1.1, hb, fun k hk => ⟨hn k hk, fun e => ?_⟩⟩
  subst e
  exact apart_nth (i := 0) (j := 1) st.nodup (by simp) rfl rfl k (.head _) (Option.mem_toList.2 hk)
theorem St.bxCall (st : St w0 M (.blk b (.cells [v].toArray T (0, 0)) :: frn M w0.heap.size E v l.length (bytesL l) :: hs) w) (hm : b ∈ M ∨ w0.heap.size ≤ b) (p : BxP E n0 T b v v' l' w w') :
    St w0 M (.blk b (.cells [v'].toArray T (0, 0)) :: frn M w0.heap.size E v' l'.length (bytesL l') :: hs) w' ∧ ∀ k, v'.ownBlock = some k → n0 ≤ k := by
  obtain ⟨⟨q1, q2, q3, q4⟩, p2, p3⟩ := p
  have h1 : w.heap[b]? = some (.cells #[v] T (0, 0)) := st.res (i := 0) rfl
  obtain ⟨⟨h2, h3⟩, -⟩ := st.res (i := 1) rfl
  have hb : b < w.heap.size := (Array.getElem?_eq_some_iff.1 h1).1
  have st1 := st.join (q := .tree (b :: v.ownBlock.toList) (fun _ => True)) (fun k hk => (List.mem_cons.1 hk).imp (fun h => by simp [Res.at?, h]) id) ⟨trivial, fun k hk => by
    rcases List.mem_cons.1 hk with rfl | hk
    · exact hb
    · exact (World.ownsRow.lt h2 k (by simpa using hk)).2, fun _ _ _ _ _ => trivial⟩
  have hlt : ∀ k ∈ b :: v'.ownBlock.toList, k < w'.heap.size := Bx.lt (n0 := n0) (l := l') ⟨q1, q2, q3, q4⟩
  have st2 := st1.swap (i := 0) (r' := .tree (b :: v'.ownBlock.toList) (fun _ => True)) rfl p2 (fun k hk => hk) (fun k hk => by
    rcases List.mem_cons.1 hk with rfl | hk
    · exact hm
    · exact h3 k (by simpa using hk)) (fun k hk => by
    rcases List.mem_cons.1 hk with rfl | hk
    · exact .inl (.head _)
    · exact (p3 k (by simpa using hk)).imp (fun h => .tail _ (Option.mem_toList.2 h)) id) ⟨trivial, hlt, fun _ _ _ _ _ => trivial⟩
  refine ⟨st2.split2 (fun k hk => by simp only [Res.at?, List.mem_singleton] at hk; subst hk; exact .head _) (fun k hk => .tail _ hk) (fun k hk hk' => ?_) q1 (frn_holds q2 fun k hk => ?_), fun k hk => (q4 k hk).1⟩
  · simp only [Res.at?, List.mem_singleton] at hk
    subst hk
    exact (q4 k (Option.mem_toList.1 hk')).2 rfl
  · rcases p3 k hk with h | h
    · exact h3 k h
    · exact .inr (Nat.le_trans st.chg.size h)
theorem St.bxInit (h : Bx E n0 T b v l w) : St w (b :: v.ownBlock.toList) [.blk b (.cells [v].toArray T (0, 0)), frn (b :: v.ownBlock.toList) w.heap.size E v l.length (bytesL l)] w := by
  obtain ⟨hb, ho, h1, h2⟩ := h
  refine ⟨Chg.refl _ _, List.pairwise_cons.2 ⟨fun s hs k hk hk' => ?_, List.pairwise_singleton _ _⟩, ?_⟩
  · simp only [List.mem_singleton] at hs
    subst hs
    simp only [Res.at?, List.mem_singleton] at hk
    subst hk
    exact (h2 k (Option.mem_toList.1 hk')).2 rfl
  · intro r hr
    simp only [List.mem_cons, List.not_mem_nil, or_false] at hr
    rcases hr with rfl | rfl
    · exact hb
    · exact frn_holds ho (fun k hk => .inl (.tail _ (Option.mem_toList.2 hk)))
theorem St.bxDone {v0 : Value} {i j len : Nat} (st : St w0 (b :: v0.ownBlock.toList) hs w) (hi : nth hs i = some (.blk b (.cells [v].toArray T (0, 0)))) (hj : nth hs j = some (frn (b :: v0.ownBlock.toList) w0.heap.size E v len (bytesL l))) (hl : l.length = len)
    (hn : n0 ≤ b) (h0 : ∀ k, v0.ownBlock = some k → n0 ≤ k ∧ k ≠ b) (hw : n0 ≤ w0.heap.size) : BxP E n0 T b v0 v l w0 w := by
  subst hl
  have hb : w.heap[b]? = some (.cells #[v] T (0, 0)) := st.res hi
  obtain ⟨⟨ho, hm⟩, -⟩ := st.res hj
  have key : ∀ k, v.ownBlock = some k → (v0.ownBlock = some k ∨ w0.heap.size ≤ k) ∧ n0 ≤ k ∧ k ≠ b := by
    intro k hk
    have hne : k ≠ b := by
      intro e
      have hij : i ≠ j := by
        rintro rfl
        rw [hi] at hj
        cases hj
      exact (apart_nth st.nodup hij hi hj) b (.head _) (Option.mem_toList.2 (e ▸ hk))
    rcases hm k hk with h | h
    · rcases List.mem_cons.1 h with rfl | h
      · exact absurd rfl hne
      · have h' : v0.ownBlock = some k := by simpa using h
        exact ⟨.inl h', (h0 k h').1, hne⟩
    · exact ⟨.inr h, by omega, hne⟩
  exact ⟨⟨hb, ho, hn, fun k hk => (key k hk).2⟩, st.chg, fun k hk => (key k hk).1⟩
end
end Sx

