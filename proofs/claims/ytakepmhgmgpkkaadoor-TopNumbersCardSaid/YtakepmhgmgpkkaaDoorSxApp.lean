/- The engine, fifth part: append. -/
import Derived.Test.YtakepmhgmgpkkaaDoorSxDraw
namespace Sx
open Go Go.RowKit
set_option linter.unusedVariables false
set_option linter.unusedSimpArgs false

section
variable {w0 w w' : World} {M : List Nat} {hs : List Res}

theorem St.app (st : St w0 M hs w) {i e size n n' : Nat} {v v' : Value} {xs xs' : List Value} (hi : nth hs i = some (.own v e size n xs)) (hg : w.grownBy w' v.ownBlock)
    (hown : w'.ownsRow w0.heap.size e size v' n' xs') (hat : v'.ownBlock = v.ownBlock ∨ v'.ownBlock = some w.heap.size) :
    St w0 M (setNth hs i (.own v' e size n' xs')) w' :=
  st.swap hi (Chg.of_grownByO hg) (by simp [Res.at?]) (fun k hk => .inr ((World.ownsRow.lt (st.res hi) k (by simpa using hk)).1)) (fun k hk => by
    simp only [Res.at?] at hk ⊢
    rcases hat with h | h
    · rw [h] at hk; exact .inl hk
    · rw [h] at hk; simp at hk; exact .inr (by omega)) hown

/-- an owned slice that is nil comes to be -/
theorem St.ownNil (st : St w0 M hs w) (e size : Nat) : St w0 M (.own (.slice none 0 0) e size 0 [] :: hs) w :=
  st.pushR (Chg.refl _ _) (World.ownsRow_nil w _ e size) (by simp [Res.at?, Value.ownBlock])

theorem ownsRow_base {base base' e size n : Nat} {v : Value} {xs : List Value} (h : w.ownsRow base e size v n xs) (hb : base' ≤ base) : w.ownsRow base' e size v n xs :=
  ⟨h.1, h.2.imp id fun ⟨g, cap, cur, h1, h2, h3⟩ => ⟨g, cap, cur, h1, Nat.le_trans hb h2, h3⟩⟩

/-- a callee hands back a row of its own -/
theorem St.pushOwn (st : St w0 M hs w) (c : Chg [] w w') {v : Value} {e size n : Nat} {xs : List Value} (h : w'.ownsRow w.heap.size e size v n xs) : St w0 M (.own v e size n xs :: hs) w' :=
  st.pushR c (ownsRow_base h st.chg.size) (fun k hk => (World.ownsRow.lt h k (by simpa [Res.at?] using hk)).1)

theorem St.own_pop {v : Value} {e size n : Nat} {xs : List Value} {i : Nat} (st : St w0 M hs w) (h : nth hs i = some (.own v e size n xs)) : w.ownsRow w0.heap.size e size v n xs := st.res h

variable {P : Program} {n : Fr} {L : List Oper} {Q : Exit → Act → World → Prop} {kn : Kn} {N : Act → World → Prop}
variable {d ty : Nat} {pos : String} {aft : Array Edge} {g : Option (Nat × Bool)}

/-- append(v, x..): an owned slice, and a row of new cells that is held -/
theorem e_app (st : St w0 M hs w) (i j : Nat) {T E size bytes m len c b : Nat} {x y : Operand} {v z : Value} {xs l : List Value} {fz : Nat × Nat} {ti : TypeInfo} (hw : gd L kn g = some true) (hd : okDst n (some d) = true)
    (hx : evO kn x = some v) (hy : evO kn y = some (.slice (some ⟨b, 0, none⟩) m c)) (hi : nth hs i = some (.own v E size len xs)) (hj : nth hs j = some (.blk b (.cells l.toArray E fz)))
    (ht : P.underlying T = some (.slice E)) (hinfo : P.info? E = some ti) (hz : ti.zero = some z) (hsize : ti.size = size) (hby : ti.bytes = bytes) (hzs : z.cells.size = size) (hsz : Nat.blt 0 size = true)
    (hl : l.length = m * size) (h1 : allOne l = true) (hm : Nat.blt 0 m = true) (h63 : len + m ≤ maxLen) (hbytes : (len + m) * bytes ≤ 140737488355328)
    (next : ∀ oa cap w', St w0 M (setNth hs i (.own (.slice oa (len + m) cap) E size (len + m) (xs ++ l))) w' → vN n N ((d, .slice oa (len + m) cap) :: kn) w') :
    vS P n L Q ⟨some d, .call ⟨.builtin .append, #[x, y], #[T, T]⟩, ty, pos, aft, g⟩ N kn w := by
  have hb : w.heap[b]? = some (.cells l.toArray E fz) := st.res hj
  have hm' : 0 < m := by simpa [Nat.blt_eq] using hm
  obtain ⟨v', w', hr, hown, hg, hnil, hat⟩ := run_append_own_at (P := P) w w0.heap.size T ty E ti z size bytes ht hinfo hz hsize hby hzs (by simpa [Nat.blt_eq] using hsz) v len xs (st.res hi) ⟨b, 0, none⟩ m c l hl
    (fun k u hk => by rw [addr_add]; exact cell_blk hb (by rw [nth_eq]; simpa using hk)) (allOne_spec h1) h63 hbytes st.chg.size
  obtain ⟨oa, cap, rfl⟩ : ∃ oa cap, v' = .slice oa (len + m) cap := by
    rcases hown.2 with ⟨rfl, h0⟩ | ⟨g, cap, cur, rfl, _⟩
    · omega
    · exact ⟨_, _, rfl⟩
  refine e_bi [v, .slice (some ⟨b, 0, none⟩) m c] hw hd (by simp [hx, hy]) (w' := w') (fun cs => ?_) (next oa cap w' (st.app hi hg hown hat))
  simp only [builtin, Sem.run_bind, List.toArray, hr]
  rfl
end
end Sx
