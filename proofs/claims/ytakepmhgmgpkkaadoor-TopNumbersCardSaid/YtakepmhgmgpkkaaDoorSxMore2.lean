/- The engine, seventh part: append of a row that can be read; stores into a row that is owned; slice literals. -/
import Derived.Test.YtakepmhgmgpkkaaDoorSxMore
import Derived.Great.BuildSlice
namespace Sx
open Go Go.RowKit
set_option linter.unusedVariables false
set_option linter.unusedSimpArgs false
section
variable {w0 w w' : World} {M : List Nat} {hs : List Res}
variable {P : Program} {n : Fr} {L : List Oper} {Q : Exit → Act → World → Prop} {kn : Kn} {N : Act → World → Prop}
variable {d ty : Nat} {pos : String} {aft : Array Edge} {g : Option (Nat × Bool)}

/-- a row that can be read -/
def RdRow (w : World) (oa : Option Addr) (c : Nat) (l : List Value) : Prop := (oa = none ∧ l = [] ∧ c = 0) ∨ ∃ a, oa = some a ∧ ∀ k u, l[k]? = some u → w.cell? (a.add k) = some u

theorem own_rd {base e size m c : Nat} {oa : Option Addr} {xs : List Value} (h : w.ownsRow base e size (.slice oa m c) m xs) : RdRow w oa c xs := by
  rcases Nat.eq_zero_or_pos m with hm | hm
  · subst hm
    have h0 : xs = [] := by apply List.eq_nil_of_length_eq_zero; rw [h.1]; simp
    subst h0
    rcases h.2 with ⟨e, _⟩ | ⟨g, cap, cur, e, _⟩
    · simp only [Value.slice.injEq] at e; exact .inl ⟨e.1, rfl, e.2.2⟩
    · simp only [Value.slice.injEq] at e; exact .inr ⟨⟨g, 0, none⟩, e.1, fun k u hk => by simp at hk⟩
  · obtain ⟨g, cap, e, _⟩ := own_form h hm
    simp only [Value.slice.injEq] at e
    obtain ⟨rfl, -, rfl⟩ := e
    exact .inr ⟨⟨g, 0, none⟩, rfl, fun k u hk => by rw [addr_add, Nat.zero_add]; exact own_cell h hk⟩
theorem RdRow.kept {oa : Option Addr} {c : Nat} {l : List Value} (h : RdRow w oa c l) (k : Chg [] w w') : RdRow w' oa c l :=
  h.imp id fun ⟨a, e, hc⟩ => ⟨a, e, fun i u hi => k.cell (hc i u hi) (by simp)⟩

theorem e_appc (st : St w0 M hs w) (i : Nat) {T E size bytes m len c : Nat} {x y : Operand} {v z : Value} {oa : Option Addr} {xs l : List Value} {ti : TypeInfo} (hw : gd L kn g = some true) (hd : okDst n (some d) = true)
    (hx : evO kn x = some v) (hy : evO kn y = some (.slice oa m c)) (hi : nth hs i = some (.own v E size len xs)) (hsrc : RdRow w oa c l)
    (ht : P.underlying T = some (.slice E)) (hinfo : P.info? E = some ti) (hz : ti.zero = some z) (hsize : ti.size = size) (hby : ti.bytes = bytes) (hzs : z.cells.size = size) (hsz : Nat.blt 0 size = true)
    (hl : l.length = m * size) (h1 : ∀ u ∈ l, u.oneCell' = true) (h63 : len + m ≤ maxLen) (hbytes : (len + m) * bytes ≤ 140737488355328) {len' : Nat} {ys : List Value} (hlen' : len + m = len') (hys : xs ++ l = ys)
    (next : ∀ oa cap w', St w0 M (setNth hs i (.own (.slice oa len' cap) E size len' ys)) w' → vN n N ((d, .slice oa len' cap) :: kn) w') :
    vS P n L Q ⟨some d, .call ⟨.builtin .append, #[x, y], #[T, T]⟩, ty, pos, aft, g⟩ N kn w := by
  subst hlen' hys
  have hsz' : 0 < size := by simpa [Nat.blt_eq] using hsz
  have hown0 : w.ownsRow w0.heap.size E size v len xs := st.res hi
  obtain ⟨v', w', hr, hown, hg, hat, ⟨oa', cap, rfl⟩⟩ : ∃ v' w', (Builtin.append_ #[T, T] ty #[v, .slice oa m c]).run P w = .ok v' w' ∧ w'.ownsRow w0.heap.size E size v' (len + m) (xs ++ l) ∧ w.grownBy w' v.ownBlock ∧
      (v'.ownBlock = v.ownBlock ∨ v'.ownBlock = some w.heap.size) ∧ ∃ oa cap, v' = .slice oa (len + m) cap := by
    rcases hsrc with ⟨rfl, rfl, rfl⟩ | ⟨a, rfl, hc⟩
    · obtain rfl : m = 0 := by
        simp only [List.length_nil] at hl
        rcases Nat.eq_zero_or_pos m with h | h
        · exact h
        · have := Nat.mul_pos h hsz'; omega
      refine ⟨v, w, run_append_owned_none (P := P) w w0.heap.size T ty E ti size ht hinfo v len xs hown0, by simpa using hown0, ⟨rfl, rfl, rfl, Nat.le_refl _, fun _ _ _ => rfl⟩, .inl rfl, ?_⟩
      rcases hown0.2 with ⟨rfl, h0⟩ | ⟨g, cap, cur, rfl, _⟩
      · exact ⟨none, 0, by rw [h0]⟩
      · exact ⟨_, _, rfl⟩
    · obtain ⟨v', w', hr, hown, hg, hnil, hat⟩ := run_append_own_at (P := P) w w0.heap.size T ty E ti z size bytes ht hinfo hz hsize hby hzs hsz' v len xs hown0 a m c l hl
        (fun k u hk => hc k u hk) h1 h63 hbytes st.chg.size
      refine ⟨v', w', hr, hown, hg, hat, ?_⟩
      rcases hown.2 with ⟨rfl, h0⟩ | ⟨g, cap, cur, rfl, _⟩
      · exact ⟨none, 0, by rw [h0]⟩
      · exact ⟨_, _, rfl⟩
  refine e_bi [v, .slice oa m c] hw hd (by simp [hx, hy]) (w' := w') (fun cs => ?_) (next oa' cap w' (st.app hi hg hown hat))
  simp only [builtin, Sem.run_bind, List.toArray, hr]
  rfl

theorem run_storeCells_own (base E size len cap b : Nat) : ∀ (vs : List Value) (xs : List Value) (off i : Nat) (w : World), w.ownsRow base E size (.slice (some ⟨b, 0, none⟩) len cap) len xs → off + i + vs.length ≤ xs.length → (∀ v ∈ vs, v.oneCell' = true) →
    ∃ w' xs', (storeCells ⟨b, off, none⟩ vs i).run P w = .ok () w' ∧ w'.ownsRow base E size (.slice (some ⟨b, 0, none⟩) len cap) len xs' ∧ w.grownBy w' (some b) ∧ xs' = xs.take (off + i) ++ vs ++ xs.drop (off + i + vs.length)
  | [], xs, off, i, w, h, hl, h1 => ⟨w, xs, by simp [storeCells, go_sem], h, ⟨rfl, rfl, rfl, Nat.le_refl _, fun _ _ _ => rfl⟩, by simp⟩
  | v :: vs, xs, off, i, w, h, hl, h1 => by
    simp only [List.length_cons] at hl
    have hc : w.cell? ⟨b, off + i, none⟩ = some (xs[off + i]'(by omega)) := own_cell h (by simp)
    have hf : w.frozen? ⟨b, off + i, none⟩ = false := World.ownsRow.frozenAt h _
    have h' := World.ownsRow.stored h (off + i) v
    obtain ⟨w', xs', hr, hh, hg', hl'⟩ := run_storeCells_own base E size len cap b vs (xs.set (off + i) v) off (i + 1) _ h'.1 (by simp; omega) (fun u hu => h1 u (.tail _ hu))
    refine ⟨w', xs', ?_, hh, ⟨hg'.os.trans h'.2.os, hg'.tape.trans h'.2.tape, hg'.output.trans h'.2.output, Nat.le_trans h'.2.size hg'.size, fun k hk hn => (hg'.block k (Nat.lt_of_lt_of_le hk h'.2.size) hn).trans (h'.2.block k hk hn)⟩, ?_⟩
    · have hone : v.oneCell' = true := h1 v (.head _)
      have hst : (store ⟨b, off + i, none⟩ v).run P w = .ok () (w.setCell ⟨b, off + i, none⟩ v) := by
        cases v <;> first | (simp [Value.oneCell'] at hone; done) | simp [store, Sem.run, hc, hf]
      simp only [storeCells, Sem.run_bind, addr_add, hst, Result.andThen_ok]
      exact hr
    · rw [hl', show off + (i + 1) = (off + i) + 1 from by omega, List.take_set, List.drop_set, if_pos (by omega), List.take_succ_eq_append_getElem (by omega : off + i < xs.length)]
      rw [List.set_append_right _ _ (by simp; omega)]
      simp only [List.length_take, Nat.min_eq_left (by omega : off + i ≤ xs.length), Nat.sub_self, List.set_cons_zero, List.append_assoc, List.cons_append, List.nil_append, List.length_cons]
      try rw [show off + i + 1 + vs.length = off + i + (vs.length + 1) from by omega]

/-- a store into a row that is owned -/
theorem e_stso (st : St w0 M hs w) (i : Nat) {x y : Operand} {T b off E size len cap : Nat} {xs : List Value} {v : Value} {vs : List Value} (hw : gd L kn g = some true) (hx : evO kn x = some (.pointer (some ⟨b, off, none⟩)))
    (hy : evO kn y = some v) (hv : v.cells.toList = vs) (h1 : allOne vs = true) (hsz : ∀ w, (Go.sizeOf T).run P w = .ok vs.length w)
    (hi : nth hs i = some (.own (.slice (some ⟨b, 0, none⟩) len cap) E size len xs)) (hlt : off + vs.length ≤ xs.length)
    (next : ∀ w', St w0 M (setNth hs i (.own (.slice (some ⟨b, 0, none⟩) len cap) E size len (xs.take off ++ vs ++ xs.drop (off + vs.length)))) w' → vN n N kn w') : vS P n L Q (⟨none, .store T x y, ty, pos, aft, g⟩) N kn w := by
  obtain ⟨w', xs', hr, hh, hg', hl⟩ := run_storeCells_own (P := P) w0.heap.size E size len cap b vs xs off 0 w (st.res hi) (by simpa using hlt) (allOne_spec h1)
  have hl' : xs' = xs.take off ++ vs ++ xs.drop (off + vs.length) := by simpa using hl
  subst hl'
  refine e_do hw rfl (w' := w') (fun a ha => ?_) (next w' (st.app hi hg' hh (.inl rfl)))
  simp only [execOp, ha.ev hx, ha.ev hy]
  have hsz' : v.cells.size = vs.length := by rw [← hv]; simp
  have key : (storeVar T ⟨b, off, none⟩ v).run P w = .ok () w' := by
    simp only [storeVar, Sem.run_bind, hsz, Result.andThen_ok, hsz', ne_eq, not_true_eq_false, ↓reduceIte, hv, hr]
  simp only [Instr.storeAt, Instr.sureAddr, Sem.run_bind, Sem.run_pure, Result.andThen_ok, key]

/-- a slice literal, by its run -/
theorem e_bsn (st : St w0 M hs w) {T E len : Nat} {parts : Array (Nat × Operand)} {l : List Value} (vals : List (Nat × Value)) (hw : gd L kn g = some true) (hd : okDst n (some d) = true)
    (hv : parts.toList.map (fun p => (evO kn p.2).map (p.1, ·)) = vals.map some)
    (hrun : ∀ w, (Instr.buildSlice T len vals.toArray).run P w = .ok (.slice (some ⟨w.heap.size, 0, none⟩) len len) (w.alloc (.cells l.toArray E (0, 0))))
    (next : ∀ b w', w0.heap.size ≤ b → St w0 M (.blk b (.cells l.toArray E (0, 0)) :: hs) w' → vN n N ((d, .slice (some ⟨b, 0, none⟩) len len) :: kn) w') :
    vS P n L Q ⟨some d, .buildSlice T len parts, ty, pos, aft, g⟩ N kn w := by
  refine e_new st (v := .slice (some ⟨w.heap.size, 0, none⟩) len len) (l := l) (E := E) hw hd (fun a ha => ?_) (fun b w' e hb st' => by subst e; exact next _ w' hb st')
  have hargs : (parts.map fun (i, x) => (i, a.eval x)) = vals.toArray := by
    apply Array.toList_inj.1
    rw [Array.toList_map]
    generalize parts.toList = as at hv
    simp only
    clear hrun
    induction as generalizing vals with
    | nil => cases vals with | nil => rfl | cons v vs => simp at hv
    | cons x xs ih =>
      cases vals with
      | nil => simp at hv
      | cons v vs =>
        simp only [List.map_cons, List.cons.injEq] at hv
        obtain ⟨h1, h2⟩ := hv
        cases hx : evO kn x.2 with
        | none => simp [hx] at h1
        | some u =>
          simp only [hx, Option.map_some, Option.some.injEq] at h1
          subst h1
          simp only [List.map_cons, ha.ev hx, ih vs h2]
  simp only [execOp, hargs, Sem.run_bind, hrun, Result.andThen_ok, Sem.run_pure]

/-- a new row is owned -/
theorem St.toOwn {b E : Nat} {l : List Value} (st : St w0 M (.blk b (.cells l.toArray E (0, 0)) :: hs) w) {len size : Nat} (hb : w0.heap.size ≤ b) (hlen : l.length = len * size) (hm : len ≤ maxLen) :
    St w0 M (.own (.slice (some ⟨b, 0, none⟩) len len) E size len l :: hs) w := by
  have hh := st.res (i := 0) rfl
  refine st.turn0 (fun k hk => by simpa [Res.at?, Value.ownBlock] using hk) ⟨hlen, .inr ⟨b, len, l.toArray, rfl, hb, hh, Nat.le_refl _, hm, by simpa using hlen, ?_⟩⟩
  simp only [← hlen]
  exact List.take_of_length_le (by simp)
/-- []T{} -/
theorem e_bs0 (st : St w0 M hs w) {T E sz : Nat} (hw : gd L kn g = some true) (hd : okDst n (some d) = true)
    (ht : P.underlying T = some (.slice E)) (hs1 : ∀ w, (Go.sizeOf E).run P w = .ok sz w)
    (next : ∀ b w', w0.heap.size ≤ b → St w0 M (.own (.slice (some ⟨b, 0, none⟩) 0 0) E sz 0 [] :: hs) w' → vN n N ((d, .slice (some ⟨b, 0, none⟩) 0 0) :: kn) w') :
    vS P n L Q ⟨some d, .buildSlice T 0 #[], ty, pos, aft, g⟩ N kn w := by
  refine e_bsn st (l := []) (E := E) [] hw hd rfl (fun w => ?_) (fun b w' hb st' => next b w' hb (st'.toOwn hb (by simp) (Nat.zero_le _)))
  simp [Instr.buildSlice, run_underlying ht, hs1, Instr.fill, newRow, newObj, Sem.run, go_sem]
end
end Sx
