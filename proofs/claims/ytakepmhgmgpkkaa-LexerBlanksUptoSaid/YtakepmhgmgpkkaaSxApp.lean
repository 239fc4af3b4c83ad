/- The engine, fifth part: append. -/
import Derived.Test.YtakepmhgmgpkkaaSxDraw
namespace Sx
open Go Go.RowKit
set_option linter.unusedVariables false
set_option linter.unusedSimpArgs false

section
variable {w0 w w' : World} {M : List Nat} {hs : List Res}

theorem fm_cons (r : Res) (b : List Res) : (r :: b).filterMap Res.at? = r.at?.toList ++ b.filterMap Res.at? := by
  cases h : r.at? <;> simp [List.filterMap_cons, h]

theorem filterMap_setNth {i : Nat} {r r' : Res} (hi : nth hs i = some r) :
    ∃ a b, hs = a ++ r :: b ∧ setNth hs i r' = a ++ r' :: b := by
  induction hs generalizing i with
  | nil => simp [nth] at hi
  | cons x xs ih =>
    cases i with
    | zero => simp [nth] at hi; subst hi; exact ⟨[], xs, rfl, rfl⟩
    | succ i =>
      simp [nth] at hi
      obtain ⟨a, b, h1, h2⟩ := ih hi
      exact ⟨x :: a, b, by simp [h1], by simp [setNth, h2]⟩

theorem St.app (st : St w0 M hs w) {i e size n n' : Nat} {v v' : Value} {xs xs' : List Value} (hi : nth hs i = some (.own v e size n xs)) (hg : w.grownBy w' v.ownBlock)
    (hown : w'.ownsRow w0.heap.size e size v' n' xs') (hat : v'.ownBlock = v.ownBlock ∨ v'.ownBlock = some w.heap.size) :
    St w0 M (setNth hs i (.own v' e size n' xs')) w' := by
  have hlt := World.ownsRow.lt (st.res hi)
  obtain ⟨a, b, h1, h2⟩ := filterMap_setNth (r' := .own v' e size n' xs') hi
  have hnd := st.nodup
  rw [h1] at hnd
  simp only [List.filterMap_append, fm_cons] at hnd
  refine ⟨?_, ?_, ?_⟩
  · refine ⟨hg.os.trans st.chg.os, hg.tape.trans st.chg.tape, hg.output.trans st.chg.output, Nat.le_trans st.chg.size hg.size, fun k hk hn => ?_⟩
    refine (hg.block k (Nat.lt_of_lt_of_le hk st.chg.size) (fun e => ?_)).trans (st.chg.block k hk hn)
    have := (hlt k e.symm).1; omega
  · rw [h2]
    simp only [List.filterMap_append, fm_cons]
    have hf := st.fresh
    rw [h1] at hf
    simp only [List.filterMap_append, fm_cons, List.mem_append, not_or] at hf
    have hf2 : w.heap.size ∉ List.filterMap Res.at? b := hf.2.2
    simp only [Res.at?] at hnd ⊢
    rcases hat with h | h
    · rw [h]; exact hnd
    · rw [h]
      rw [List.nodup_append] at hnd ⊢
      obtain ⟨n1, n2, n3⟩ := hnd
      rw [List.nodup_append] at n2
      obtain ⟨_, n5, _⟩ := n2
      refine ⟨n1, ?_, ?_⟩
      · simp only [Option.toList_some, List.cons_append, List.nil_append, List.nodup_cons]; exact ⟨hf2, n5⟩
      · intro x hx y hy
        simp only [Option.toList_some, List.cons_append, List.nil_append, List.mem_cons] at hy
        rcases hy with rfl | hy
        · intro e; subst e; exact hf.1 hx
        · exact n3 x hx y (List.mem_append.2 (.inr hy))
  · rw [h2]
    intro r hr
    have key : ∀ r ∈ a ++ b, r.holds w0.heap.size w' := by
      intro r hr
      have hr' : r ∈ hs := by rw [h1]; simp only [List.mem_append, List.mem_cons] at hr ⊢; rcases hr with h | h; exact .inl h; exact .inr (.inr h)
      refine Res.holds_kept (st.here r hr') hg ?_
      by_cases hn : v.ownBlock = none
      · rw [hn]; cases r.at? <;> simp
      · right
        intro e
        obtain ⟨k, hk⟩ := Option.ne_none_iff_exists'.1 hn
        rw [List.nodup_append] at hnd
        obtain ⟨n1, n2, n3⟩ := hnd
        simp only [Res.at?, hk, Option.toList_some, List.cons_append, List.nil_append, List.nodup_cons] at n2
        rw [hk] at e
        rcases List.mem_append.1 hr with h | h
        · exact n3 k (List.mem_filterMap.2 ⟨r, h, e⟩) k (by simp [Res.at?, hk]) rfl
        · exact n2.1 (List.mem_filterMap.2 ⟨r, h, e⟩)
    simp only [List.mem_append, List.mem_cons] at hr
    rcases hr with h | rfl | h
    · exact key r (List.mem_append.2 (.inl h))
    · exact hown
    · exact key r (List.mem_append.2 (.inr h))

/-- an owned slice that is nil comes to be -/
theorem St.ownNil (st : St w0 M hs w) (e size : Nat) : St w0 M (.own (.slice none 0 0) e size 0 [] :: hs) w :=
  ⟨st.chg, by rw [fm_cons]; exact st.nodup, fun r hr => by
    rcases List.mem_cons.1 hr with rfl | h
    · exact World.ownsRow_nil w _ e size
    · exact st.here r h⟩

theorem ownsRow_base {base base' e size n : Nat} {v : Value} {xs : List Value} (h : w.ownsRow base e size v n xs) (hb : base' ≤ base) : w.ownsRow base' e size v n xs :=
  ⟨h.1, h.2.imp id fun ⟨g, cap, cur, h1, h2, h3⟩ => ⟨g, cap, cur, h1, Nat.le_trans hb h2, h3⟩⟩

/-- a callee hands back a row of its own -/
theorem St.pushOwn (st : St w0 M hs w) (c : Chg [] w w') {v : Value} {e size n : Nat} {xs : List Value} (h : w'.ownsRow w.heap.size e size v n xs) : St w0 M (.own v e size n xs :: hs) w' := by
  have st' := st.call0 c
  refine ⟨st'.chg, ?_, fun r hr => ?_⟩
  · rw [fm_cons]
    cases hv : v.ownBlock with
    | none => simpa [Res.at?, hv] using st.nodup
    | some k =>
      have hk := (World.ownsRow.lt h k hv).1
      simp only [Res.at?, hv, Option.toList_some, List.cons_append, List.nil_append, List.nodup_cons]
      refine ⟨fun hm => ?_, st.nodup⟩
      obtain ⟨r, hr, hrk⟩ := List.mem_filterMap.1 hm
      exact absurd (st.lt hr hrk) (by omega)
  · rcases List.mem_cons.1 hr with rfl | hr
    · exact ownsRow_base h st.chg.size
    · exact st'.here r hr

theorem St.own_pop {v : Value} {e size n : Nat} {xs : List Value} {i : Nat} (st : St w0 M hs w) (h : nth hs i = some (.own v e size n xs)) : w.ownsRow w0.heap.size e size v n xs := st.res h

variable {P : Program} {n : Nat} {L : List Oper} {Q : Exit → Act → World → Prop} {kn : Kn} {N : Act → World → Prop}
variable {d ty : Nat} {pos : String} {aft : Array Edge} {g : Option (Nat × Bool)}

/-- append(v, x..): an owned slice, and a row of new cells that is held -/
theorem e_app (st : St w0 M hs w) (i j : Nat) {T E size bytes m len c b : Nat} {x y : Operand} {v z : Value} {xs l : List Value} {fz : Nat × Nat} {ti : TypeInfo} (hw : gd L kn g = some true) (hd : okDst n (some d) = true)
    (hx : evO kn x = some v) (hy : evO kn y = some (.slice (some ⟨b, 0, none⟩) m c)) (hi : nth hs i = some (.own v E size len xs)) (hj : nth hs j = some (.blk b (.cells l.toArray E fz)))
    (ht : P.underlying T = some (.slice E)) (hinfo : P.info? E = some ti) (hz : ti.zero = some z) (hsize : ti.size = size) (hby : ti.bytes = bytes) (hzs : z.cells.size = size) (hsz : Nat.blt 0 size = true)
    (hl : l.length = m * size) (h1 : allOne l = true) (hm : Nat.blt 0 m = true) (h63 : len + m ≤ maxLen) (hbytes : (len + m) * bytes ≤ 140737488355328)
    (next : ∀ oa cap w', St w0 M (setNth hs i (.own (.slice oa (len + m) cap) E size (len + m) (xs ++ l))) w' → vN n N ((d, .slice oa (len + m) cap) :: kn) w') :
    vS P n L Q ⟨some d, .call ⟨.builtin .append, #[x, y], #[T, T]⟩, ty, pos, aft, g⟩ N kn w := by
  have hb : w.heap[b]? = some (.cells l.toArray E fz) := st.res hj
  have hm' : 0 < m := by simpa [Nat.blt_eq] using hm
  obtain ⟨v', w', hr, hown, hg, hnil, hat⟩ := run_append_own_at (P := P) w w0.heap.size T ty E ti z size bytes ht hinfo hz hsize hby hzs (by simpa [Nat.blt_eq] using hsz) v len xs (st.res hi) ⟨b, 0, none⟩ m c l hl
    (fun k u hk => by rw [addr_add]; exact cell_blk hb (by rw [nth_eq]; simpa using hk)) (allOne_spec h1) h63 hbytes st.chg.size
  obtain ⟨oa, cap, rfl⟩ : ∃ oa cap, v' = .slice oa (len + m) cap := by
    rcases hown.2 with ⟨rfl, h0⟩ | ⟨g, cap, cur, rfl, _⟩
    · omega
    · exact ⟨_, _, rfl⟩
  refine e_bi [v, .slice (some ⟨b, 0, none⟩) m c] hw hd (by simp [hx, hy]) (w' := w') (fun cs => ?_) (next oa cap w' (st.app hi hg hown hat))
  simp only [builtin, Sem.run_bind, List.toArray, hr]
  rfl
end
end Sx
