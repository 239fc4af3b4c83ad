/- A part of the proof: contracts of functions and plain laws; each theorem says its own conditions. -/
import Derived.Test.YtnmhlpnapgojjaaGreatDoorPrettyOwnK1
import Derived.Test.YtnmhlpnapgojjaaGreatDoorPrettyOwnK2
import Derived.Test.YtnmhlpnapgojjaaGreatDoorPrettyOwnK5
set_option linter.unusedVariables false
set_option linter.unusedSimpArgs false
/- The engine, sixteenth part: a text that grows in somebody's memory: a struct of a byte slice and a flag. -/
namespace Sx
open Go Go.RowKit

/-- a row of cells that the callee does not own: its block may change -/
def frn (M : List Nat) (base E : Nat) (v : Value) (n : Nat) (xs : List Value) : Res := .tree v.ownBlock.toList fun w => w.ownsRow 0 E 1 v n xs ∧ ∀ k, v.ownBlock = some k → k ∈ M ∨ base ≤ k

theorem loc_owns (E n : Nat) (v : Value) (xs : List Value) : Loc v.ownBlock.toList fun w => w.ownsRow 0 E 1 v n xs := by
  intro w w' hs hk ⟨h1, h2⟩
  refine ⟨h1, h2.imp id fun ⟨g, cap, cur, e, hb, hc, hr⟩ => ⟨g, cap, cur, e, hb, ?_, hr⟩⟩
  rw [hk g (by rw [e]; simp [Value.ownBlock])]; exact hc

section
variable {w0 w w' : World} {M : List Nat} {hs : List Res}

theorem frn_holds {base' base E n : Nat} {v : Value} {xs : List Value} (ho : w.ownsRow 0 E 1 v n xs) (hm : ∀ k, v.ownBlock = some k → k ∈ M ∨ base ≤ k) : (frn M base E v n xs).holds base' w :=
  ⟨⟨ho, hm⟩, fun k hk => (World.ownsRow.lt ho k (by simpa using hk)).2, fun a b hs hk h => ⟨loc_owns E n v xs a b hs hk h.1, h.2⟩⟩

theorem St.appF (st : St w0 M hs w) {i E n n' : Nat} {v v' : Value} {xs xs' : List Value} (hi : nth hs i = some (frn M w0.heap.size E v n xs)) (hg : w.grownBy w' v.ownBlock)
    (hown : w'.ownsRow 0 E 1 v' n' xs') (hat : ∀ k, v'.ownBlock = some k → v.ownBlock = some k ∨ w.heap.size ≤ k) :
    St w0 M (setNth hs i (frn M w0.heap.size E v' n' xs')) w' := by
  obtain ⟨⟨h1, h2⟩, -⟩ := st.res hi
  refine st.swap hi (Chg.of_grownByO hg) (by simp [Res.at?, frn]) (fun k hk => h2 k (by simpa using hk)) (fun k hk => ?_) (frn_holds hown fun k hk => ?_)
  · simp only [Res.at?, frn, Option.mem_toList] at hk ⊢
    exact hat k hk
  · rcases hat k hk with h | h
    · exact h2 k h
    · exact .inr (Nat.le_trans st.chg.size h)

variable {P : Program} {n : Fr} {L : List Oper} {Q : Exit → Act → World → Prop} {kn : Kn} {N : Act → World → Prop}
variable {d ty : Nat} {pos : String} {aft : Array Edge} {g : Option (Nat × Bool)}

theorem slice_form {base E len : Nat} {v : Value} {xs : List Value} (ho : w.ownsRow base E 1 v len xs) : ∃ oa cap, v = .slice oa len cap := by
  rcases ho.2 with ⟨rfl, h0⟩ | ⟨g, cap, cur, rfl, _⟩
  · exact ⟨none, 0, by rw [h0]⟩
  · exact ⟨_, _, rfl⟩

/-- append(v, s...) to a row that is another's -/
theorem e_appsF (st : St w0 M hs w) (i : Nat) {T U E len : Nat} {x y : Operand} {v : Value} {xs : List Value} {p : List UInt8} {ti : TypeInfo} (hw : gd L kn g = some true) (hd : okDst n (some d) = true)
    (hx : evO kn x = some v) (hy : evO kn y = some (str p)) (hi : nth hs i = some (frn M w0.heap.size E v len xs))
    (ht : P.underlying T = some (.slice E)) (hu : P.underlying U = some .string) (hinfo : P.info? E = some ti) (hz : ti.zero = some (.int .u8 0)) (hsize : ti.size = 1) (hby : ti.bytes = 1)
    {len' : Nat} {ys : List Value} (hlen' : len + p.length = len') (hys : xs ++ bytesL p = ys) (h63 : len' ≤ 140737488355328)
    (next : ∀ oa cap w', St w0 M (setNth hs i (frn M w0.heap.size E (.slice oa len' cap) len' ys)) w' → vN n N ((d, .slice oa len' cap) :: kn) w') :
    vS P n L Q ⟨some d, .call ⟨.builtin .append, #[x, y], #[T, U]⟩, ty, pos, aft, g⟩ N kn w := by
  subst hlen' hys
  obtain ⟨v', w', hr, ho, hg, hat⟩ := app_str (P := P) (tyy := ty) 0 ht hu hinfo hz hsize hby (st.res hi).1.1 p (by unfold maxLen; omega) h63 (Nat.zero_le _)
  obtain ⟨oa, cap, rfl⟩ := slice_form ho
  refine e_bi [v, str p] hw hd (by simp [hx, hy]) (w' := w') (fun cs => ?_) (next oa cap w' (st.appF hi hg ho hat))
  simp only [builtin, Sem.run_bind, List.toArray, hr]
  rfl

/-- append(v, x) to a row that is another's: a row of new cells that is held -/
theorem e_appF (st : St w0 M hs w) (i j : Nat) {T E bytes m len c b : Nat} {x y : Operand} {v z : Value} {xs l : List Value} {fz : Nat × Nat} {ti : TypeInfo} (hw : gd L kn g = some true) (hd : okDst n (some d) = true)
    (hx : evO kn x = some v) (hy : evO kn y = some (.slice (some ⟨b, 0, none⟩) m c)) (hi : nth hs i = some (frn M w0.heap.size E v len xs)) (hj : nth hs j = some (.blk b (.cells l.toArray E fz)))
    (ht : P.underlying T = some (.slice E)) (hinfo : P.info? E = some ti) (hz : ti.zero = some z) (hsize : ti.size = 1) (hby : ti.bytes = bytes) (hzs : z.cells.size = 1)
    (hl : l.length = m * 1) (h1 : allOne l = true) (hm : Nat.blt 0 m = true) (h63 : len + m ≤ maxLen) (hbytes : (len + m) * bytes ≤ 140737488355328) {len' : Nat} {ys : List Value} (hlen' : len + m = len') (hys : xs ++ l = ys)
    (next : ∀ oa cap w', St w0 M (setNth hs i (frn M w0.heap.size E (.slice oa len' cap) len' ys)) w' → vN n N ((d, .slice oa len' cap) :: kn) w') :
    vS P n L Q ⟨some d, .call ⟨.builtin .append, #[x, y], #[T, T]⟩, ty, pos, aft, g⟩ N kn w := by
  subst hlen' hys
  have hb : w.heap[b]? = some (.cells l.toArray E fz) := st.res hj
  have hm' : 0 < m := by simpa [Nat.blt_eq] using hm
  obtain ⟨v', w', hr, hown, hg, hnil, hat⟩ := run_append_own_at (P := P) w 0 T ty E ti z 1 bytes ht hinfo hz hsize hby hzs (by omega) v len xs (st.res hi).1.1 ⟨b, 0, none⟩ m c l hl
    (fun k u hk => by rw [addr_add]; exact cell_blk hb (by rw [nth_eq]; simpa using hk)) (allOne_spec h1) h63 hbytes (Nat.zero_le _)
  obtain ⟨oa, cap, rfl⟩ := slice_form hown
  refine e_bi [v, .slice (some ⟨b, 0, none⟩) m c] hw hd (by simp [hx, hy]) (w' := w') (fun cs => ?_) (next oa cap w' (st.appF hi hg hown (fun k hk => by
    rcases hat with h | h
    · rw [h] at hk; exact .inl hk
    · rw [h] at hk; simp at hk; exact .inr (by omega))))
  simp only [builtin, Sem.run_bind, List.toArray, hr]
  rfl

/-! ## the text -/
/-- what lies there tells of the text: all of it, or that it is too long -/
def WS (l : List UInt8) (many : Bool) (F : List UInt8) : Prop := (many = false ∧ l = F ∧ F.length ≤ 65536) ∨ (many = true ∧ 65536 < F.length ∧ l.length ≤ 65536)
theorem WS.le {l F : List UInt8} {m : Bool} (h : WS l m F) : l.length ≤ 65536 := by
  rcases h with ⟨_, rfl, h⟩ | ⟨_, _, h⟩ <;> exact h
theorem WS.over {l F : List UInt8} (h : WS l true F) (G : List UInt8) : WS l true (F ++ G) := by
  rcases h with ⟨h, _⟩ | ⟨_, h1, h2⟩
  · cases h
  · exact .inr ⟨rfl, by simp; omega, h2⟩
theorem WS.put {l F : List UInt8} (h : WS l false F) {G : List UInt8} (hG : l.length + G.length ≤ 65536) : WS (l ++ G) false (F ++ G) := by
  rcases h with ⟨_, rfl, h⟩ | ⟨h, _⟩
  · exact .inl ⟨rfl, rfl, by simpa using hG⟩
  · cases h
theorem WS.no {l F : List UInt8} (h : WS l false F) {G : List UInt8} (hG : 65536 < l.length + G.length) : WS l true (F ++ G) := by
  rcases h with ⟨_, rfl, h⟩ | ⟨h, _⟩
  · exact .inr ⟨rfl, by simpa using hG, h⟩
  · cases h
theorem WS.no' {l F : List UInt8} {m : Bool} (h : WS l m F) (hm : m = false) {G : List UInt8} (hG : 65536 < l.length + G.length) : WS l true (F ++ G) := by subst hm; exact h.no hG
/-- another text that is too long as well -/
theorem WS.swap {l F G G' : List UInt8} {m : Bool} (h : WS l m (F ++ G')) (hG : G' = G ∨ 65536 < G'.length ∧ 65536 < G.length) : WS l m (F ++ G) := by
  rcases hG with rfl | ⟨h1, h2⟩
  · exact h
  · rcases h with ⟨_, rfl, h⟩ | ⟨rfl, _, h⟩
    · simp at h; omega
    · exact .inr ⟨rfl, by simp; omega, h⟩
def Wr (E n0 T bw : Nat) (v : Value) (F : List UInt8) (w : World) : Prop := ∃ l many, w.heap[bw]? = some (.cells #[v, .bool many] T (0, 0)) ∧ w.ownsRow 0 E 1 v l.length (bytesL l) ∧ WS l many F ∧ n0 ≤ bw ∧ ∀ k, v.ownBlock = some k → n0 ≤ k ∧ k ≠ bw
def WrP (E n0 T bw : Nat) (v : Value) (F : List UInt8) (w w' : World) : Prop := ∃ v', Wr E n0 T bw v' F w' ∧ Chg (bw :: v.ownBlock.toList) w w' ∧ ∀ k, v'.ownBlock = some k → v.ownBlock = some k ∨ w.heap.size ≤ k
def wrR (M : List Nat) (base E n0 T bw : Nat) (v : Value) (F : List UInt8) : Res := .tree (bw :: v.ownBlock.toList) fun w => Wr E n0 T bw v F w ∧ (bw ∈ M ∨ base ≤ bw) ∧ ∀ k, v.ownBlock = some k → k ∈ M ∨ base ≤ k
variable {E n0 T bw : Nat} {v : Value} {F : List UInt8}
theorem Wr.lt (h : Wr E n0 T bw v F w) : ∀ k ∈ bw :: v.ownBlock.toList, k < w.heap.size := by
  obtain ⟨l, many, hb, ho, hws, h1, h2⟩ := h
  intro k hk
  rcases List.mem_cons.1 hk with rfl | hk
  · exact (Array.getElem?_eq_some_iff.1 hb).1
  · exact (World.ownsRow.lt ho k (by simpa using hk)).2
theorem Wr.loc : Loc (bw :: v.ownBlock.toList) (Wr E n0 T bw v F) := by
  intro a b hs hk ⟨l, many, hb, ho, hr⟩
  exact ⟨l, many, by rw [hk bw (.head _)]; exact hb, loc_owns E _ v _ a b hs (fun k h => hk k (.tail _ h)) ho, hr⟩
theorem wrR_holds {base' base : Nat} (h : Wr E n0 T bw v F w) (hb : bw ∈ M ∨ base ≤ bw) (hm : ∀ k, v.ownBlock = some k → k ∈ M ∨ base ≤ k) : (wrR M base E n0 T bw v F).holds base' w :=
  ⟨⟨h, hb, hm⟩, h.lt, fun a b hs hk h => ⟨Wr.loc a b hs hk h.1, h.2⟩⟩
theorem St.wrInit (h : Wr E n0 T bw v F w) : St w (bw :: v.ownBlock.toList) [wrR (bw :: v.ownBlock.toList) w.heap.size E n0 T bw v F] w :=
  ⟨Chg.refl _ _, List.pairwise_singleton _ _, by
    intro r hr
    simp only [List.mem_singleton] at hr
    subst hr
    exact wrR_holds h (.inl (.head _)) (fun k hk => .inl (.tail _ (Option.mem_toList.2 hk)))⟩
/-- a callee has written -/
theorem St.wr (st : St w0 M hs w) {i : Nat} {F' : List UInt8} (hi : nth hs i = some (wrR M w0.heap.size E n0 T bw v F)) (p : WrP E n0 T bw v F' w w') : ∃ v', St w0 M (setNth hs i (wrR M w0.heap.size E n0 T bw v' F')) w' := by
  obtain ⟨v', h1, h2, h3⟩ := p
  obtain ⟨⟨k1, k2, k3⟩, -⟩ := st.res hi
  refine ⟨v', st.swap hi h2 (by simp [Res.at?, wrR]) (fun k hk => ?_) (fun k hk => ?_) (wrR_holds h1 k2 fun k hk => ?_)⟩
  · rcases List.mem_cons.1 hk with rfl | hk
    · exact k2
    · exact k3 k (by simpa using hk)
  · simp only [Res.at?, wrR, List.mem_cons, Option.mem_toList] at hk ⊢
    rcases hk with rfl | hk
    · exact .inl (.inl rfl)
    · exact (h3 k hk).imp .inr id
  · rcases h3 k hk with h | h
    · exact k3 k h
    · exact .inr (Nat.le_trans st.chg.size h)
theorem St.wrGet (st : St w0 M hs w) {i : Nat} (hi : nth hs i = some (wrR M w0.heap.size E n0 T bw v F)) : Wr E n0 T bw v F w := (st.res hi).1.1
/-- the callee is done -/
theorem St.wrDone {v0 : Value} (st : St w0 (bw :: v0.ownBlock.toList) hs w) {i : Nat} (hi : nth hs i = some (wrR (bw :: v0.ownBlock.toList) w0.heap.size E n0 T bw v F)) : WrP E n0 T bw v0 F w0 w := by
  obtain ⟨⟨k1, k2, k3⟩, -⟩ := st.res hi
  refine ⟨v, k1, st.chg, fun k hk => ?_⟩
  obtain ⟨l, many, hb, ho, hws, h1, h2⟩ := k1
  rcases k3 k hk with h | h
  · rcases List.mem_cons.1 h with rfl | h
    · exact absurd rfl (h2 _ hk).2
    · exact .inl (by simpa using h)
  · exact .inr h
/-- what lies in other blocks stays -/
theorem Wr.same (h : Wr E n0 T bw v F w) (c : Chg (bw :: v.ownBlock.toList) w w') : w.heap.size ≤ w'.heap.size ∧ ∀ b, b < n0 → b < w.heap.size → w'.heap[b]? = w.heap[b]? := by
  obtain ⟨l, many, hb, ho, hws, h1, h2⟩ := h
  refine ⟨c.size, fun b hb hl => c.block b hl fun hk => ?_⟩
  rcases List.mem_cons.1 hk with rfl | hk
  · omega
  · have := (h2 b (by simpa using hk)).1; omega
theorem Wr.notin (h : Wr E n0 T bw v F w) {b : Nat} (hb : b < n0) : b ∉ bw :: v.ownBlock.toList := by
  obtain ⟨l, many, hc, ho, hws, h1, h2⟩ := h
  intro hk
  rcases List.mem_cons.1 hk with rfl | hk
  · omega
  · have := (h2 b (by simpa using hk)).1; omega
theorem WrP.re {F' : List UInt8} (p : WrP E n0 T bw v F w w') (h : ∀ l m v', w'.heap[bw]? = some (.cells #[v', .bool m] T (0, 0)) → WS l m F → WS l m F') : WrP E n0 T bw v F' w w' := by
  obtain ⟨v', ⟨l, m, hb, ho, hws, hr⟩, h2⟩ := p
  exact ⟨v', ⟨l, m, hb, ho, h l m v' hb hws, hr⟩, h2⟩
theorem WrP.eq {F' : List UInt8} (p : WrP E n0 T bw v F w w') (h : F = F') : WrP E n0 T bw v F' w w' := h ▸ p
/-- the text is too long already -/
theorem WrP.over {G : List UInt8} (p : WrP E n0 T bw v F w w') {v1 : Value} (h : w'.heap[bw]? = some (.cells #[v1, .bool true] T (0, 0))) : WrP E n0 T bw v (F ++ G) w w' :=
  p.re fun l m v' hb hws => by
    rw [h] at hb
    simp only [Option.some.injEq, Obj.cells.injEq, Array.mk.injEq, List.cons.injEq, Value.bool.injEq, and_true] at hb
    rw [← hb.2] at hws ⊢
    exact hws.over G
/-- the struct and its row apart -/
theorem St.wrOpen (h : Wr E n0 T bw v F w) : ∃ l many oa cap, v = .slice oa l.length cap ∧ WS l many F ∧ n0 ≤ bw ∧ (∀ k, v.ownBlock = some k → n0 ≤ k ∧ k ≠ bw) ∧
    St w (bw :: v.ownBlock.toList) [.blk bw (.cells [.slice oa l.length cap, .bool many].toArray T (0, 0)), frn (bw :: v.ownBlock.toList) w.heap.size E (.slice oa l.length cap) l.length (bytesL l)] w := by
  obtain ⟨l, many, hb, ho, hws, h1, h2⟩ := h
  obtain ⟨oa, cap, rfl⟩ := slice_form ho
  refine ⟨l, many, oa, cap, rfl, hws, h1, h2, Chg.refl _ _, ?_, ?_⟩
  · refine List.pairwise_cons.2 ⟨fun s hs k hk hk' => ?_, List.pairwise_singleton _ _⟩
    simp only [List.mem_singleton] at hs
    subst hs
    simp only [Res.at?, List.mem_singleton] at hk
    subst hk
    simp only [Res.at?, frn, Option.mem_toList] at hk'
    exact (h2 _ hk').2 rfl
  · intro r hr
    simp only [List.mem_cons, List.not_mem_nil, or_false] at hr
    rcases hr with rfl | rfl
    · exact hb
    · exact frn_holds ho (fun k hk => .inl (.tail _ (Option.mem_toList.2 hk)))
/-- and together again, at the end -/
theorem St.wrClose {l : List UInt8} {many : Bool} {oa : Option Addr} {len cap : Nat} {v0 : Value} {i j : Nat} (st : St w0 (bw :: v0.ownBlock.toList) hs w) (hi : nth hs i = some (.blk bw (.cells [.slice oa len cap, .bool many].toArray T (0, 0))))
    (hj : nth hs j = some (frn (bw :: v0.ownBlock.toList) w0.heap.size E (.slice oa len cap) len (bytesL l))) (hl : l.length = len) (hws : WS l many F) (hn : n0 ≤ bw) (h0 : ∀ k, v0.ownBlock = some k → n0 ≤ k ∧ k ≠ bw) (hbw : bw < w0.heap.size) (hw : n0 ≤ w0.heap.size) : WrP E n0 T bw v0 F w0 w := by
  subst hl
  have hb : w.heap[bw]? = some (.cells #[.slice oa l.length cap, .bool many] T (0, 0)) := st.res hi
  obtain ⟨⟨ho, hm⟩, -⟩ := st.res hj
  have key : ∀ k, (Value.slice oa l.length cap).ownBlock = some k → (v0.ownBlock = some k ∨ w0.heap.size ≤ k) ∧ n0 ≤ k ∧ k ≠ bw := by
    intro k hk
    have hne : k ≠ bw := by
      intro e
      have hij : i ≠ j := by
        rintro rfl
        rw [hi] at hj
        cases hj
      exact (apart_nth st.nodup hij hi hj) bw (.head _) (Option.mem_toList.2 (e ▸ hk))
    rcases hm k hk with h | h
    · rcases List.mem_cons.1 h with rfl | h
      · exact absurd rfl hne
      · have h' : v0.ownBlock = some k := by simpa using h
        exact ⟨.inl h', (h0 k h').1, hne⟩
    · exact ⟨.inr h, by omega, hne⟩
  exact ⟨.slice oa l.length cap, ⟨l, many, hb, ho, hws, hn, fun k hk => (key k hk).2⟩, st.chg, fun k hk => (key k hk).1⟩
/-- an empty text -/
theorem St.wrNew (st : St w0 M (.blk bw (.cells [.slice none 0 0, .bool false].toArray T (0, 0)) :: hs) w) (hb : w0.heap.size ≤ bw) (hn : n0 ≤ w0.heap.size) : St w0 M (wrR M w0.heap.size E n0 T bw (.slice none 0 0) [] :: hs) w := by
  have h : w.heap[bw]? = some (.cells #[.slice none 0 0, .bool false] T (0, 0)) := st.res (i := 0) rfl
  refine st.turn0 (fun k hk => by simpa [Res.at?, wrR, Value.ownBlock] using hk) (wrR_holds ⟨[], false, h, World.ownsRow_nil w 0 E 1, .inl ⟨rfl, rfl, by simp⟩, by omega, fun k hk => by simp [Value.ownBlock] at hk⟩ (.inr hb) fun k hk => by simp [Value.ownBlock] at hk)
end
end Sx


namespace Go.Proofs.YtnmhlpnapgojjaaGreatDoor
open Go.RowKit Sx LexS _root_.Go.Proofs.Tryz
theorem Tryz.info5 : Tryz.prog.info? 5 = some Tryz.t5 := by kernel_rfl
section
variable {n0 : Nat}
theorem ptr_cell {w : World} {bw T : Nat} {v : Value} {m : Bool} (h : w.heap[bw]? = some (.cells #[v, .bool m] T (0, 0))) : w.cell? ⟨bw, 1, none⟩ = some (.bool m) := cell_nth (l := [v, .bool m]) h rfl

end
end Go.Proofs.YtnmhlpnapgojjaaGreatDoor


namespace Go.Proofs.YtnmhlpnapgojjaaGreatDoor
open Go.RowKit Sx LexS _root_.Go.Proofs.Tryz
section
variable {n0 : Nat}
theorem rightE_inv3 {e : Ex} {d : Nat} (h : rightE e d = true) (hk : e.k = 3) : ∃ x, e.kids = [x] ∧ ∃ d', rightE x d' = true := by
 have hd := rightE_le h
 by_cases h1 : e.kids.length = 1
 ·obtain ⟨x, hx⟩ := get0 h1 (by omega)
  refine ⟨x, one_form h1 hx, ?_⟩
  rw [rightE_3 hk hd (one_form h1 hx)] at h
  simp only [Bool.and_eq_true] at h
  exact ⟨_, h.2⟩
 ·rw [rightE_3n hk (.inl h1)] at h; cases h
theorem rightE_inv4 {e : Ex} {d : Nat} (h : rightE e d = true) (hk : e.k = 4) : ∃ x y, e.kids = [x, y] ∧ (∃ d', rightE x d' = true) ∧ ∃ d', rightE y d' = true := by
 have hd := rightE_le h
 by_cases h1 : e.kids.length = 2
 ·obtain ⟨x, hx⟩ := get0 h1 (by omega)
  obtain ⟨y, hy⟩ := get1 h1
  refine ⟨x, y, two_form h1 hx hy, ?_⟩
  rw [rightE_4 hk hd (two_form h1 hx hy)] at h
  simp only [Bool.and_eq_true] at h
  exact ⟨⟨_, h.2.1⟩, ⟨_, h.2.2⟩⟩
 ·rw [rightE_4n hk (.inl h1)] at h; cases h
theorem rightE_kind {e : Ex} {d : Nat} (h : rightE e d = true) : e.k = 1 ∨ e.k = 2 ∨ e.k = 3 ∨ e.k = 4 := by
 by_cases h1 : e.k = 1
 ·exact .inl h1
 by_cases h2 : e.k = 2
 ·exact .inr (.inl h2)
 by_cases h3 : e.k = 3
 ·exact .inr (.inr (.inl h3))
 by_cases h4 : e.k = 4
 ·exact .inr (.inr (.inr h4))
 rw [rightE_0 h1 h2 h3 h4] at h; cases h
theorem isName_le {l : List UInt8} (h : isName l = true) : l.length ≤ 32 := by
 rcases Nat.lt_or_ge 32 l.length with h1 | h1
 ·rw [isName_long h1] at h; cases h
 ·exact h1
theorem txtE_1 {e : Ex} (h : e.k = 1) : txtE e = shw e.wd := by
 cases e; simp only [Ex.k] at h; subst h; rw [txtE.eq_def]; simp [Ex.wd]
theorem txtE_2 {e : Ex} (h : e.k = 2) : txtE e = e.nm := by
 cases e; simp only [Ex.k] at h; subst h; rw [txtE.eq_def]; simp [Ex.nm]
theorem txtE_3 {e x : Ex} (h : e.k = 3) (hx : e.kids = [x]) : txtE e = shwO e.op ++ par (decide (x.k = 4)) (txtE x) := by
 cases e with
 | mk k op wd nm kids a => change k = 3 at h; change kids = [x] at hx; subst h hx; rw [txtE]; simp [Ex.op]
theorem txtE_4 {e x y : Ex} (h : e.k = 4) (hx : e.kids = [x, y]) : txtE e = par (inn e.op x false) (txtE x) ++ ([32] ++ shwO e.op ++ [32]) ++ par (inn e.op y true) (txtE y) := by
 cases e with
 | mk k op wd nm kids a => change k = 4 at h; change kids = [x, y] at hx; subst h hx; rw [txtE]; simp [Ex.op]
theorem shw_le (x : Int) (h : i64 x) : (shw x).length ≤ 20 := by
 unfold i64 at h
 have h1 := dec_len 18 x.natAbs (by simp only [Nat.reducePow, Nat.reduceAdd]; omega)
 unfold shw
 split
 ·simp only [List.length_cons]; omega
 ·omega

end
end Go.Proofs.YtnmhlpnapgojjaaGreatDoor


/- The engine, seventeenth part: a byte slice in a box that a closure holds. -/
namespace Sx
open Go Go.RowKit
section
variable {w0 w w' : World} {M : List Nat} {hs : List Res} {E n0 T b n n' : Nat} {v v' : Value} {l l' : List UInt8} {xs xs' : List Value}

/-- a row that a callee has written on -/
def RowP (E : Nat) (v v' : Value) (n' : Nat) (xs' : List Value) (w w' : World) : Prop := w'.ownsRow 0 E 1 v' n' xs' ∧ Chg v.ownBlock.toList w w' ∧ ∀ k, v'.ownBlock = some k → v.ownBlock = some k ∨ w.heap.size ≤ k
theorem St.frnP (st : St w0 M hs w) {i : Nat} (hi : nth hs i = some (frn M w0.heap.size E v n xs)) (p : RowP E v v' n' xs' w w') : St w0 M (setNth hs i (frn M w0.heap.size E v' n' xs')) w' := by
  obtain ⟨⟨h1, h2⟩, -⟩ := st.res hi
  obtain ⟨p1, p2, p3⟩ := p
  refine st.swap hi p2 (by simp [Res.at?, frn]) (fun k hk => h2 k (by simpa using hk)) (fun k hk => ?_) (frn_holds p1 fun k hk => ?_)
  · simp only [Res.at?, frn, Option.mem_toList] at hk ⊢
    exact p3 k hk
  · rcases p3 k hk with h | h
    · exact h2 k h
    · exact .inr (Nat.le_trans st.chg.size h)
theorem St.frnInit (h : w.ownsRow 0 E 1 v n xs) : St w v.ownBlock.toList [frn v.ownBlock.toList w.heap.size E v n xs] w :=
  ⟨Chg.refl _ _, List.pairwise_singleton _ _, by
    intro r hr
    simp only [List.mem_singleton] at hr
    subst hr
    exact frn_holds h (fun k hk => .inl (Option.mem_toList.2 hk))⟩
theorem St.frnDone {v0 : Value} (st : St w0 v0.ownBlock.toList hs w) {i : Nat} (hi : nth hs i = some (frn v0.ownBlock.toList w0.heap.size E v n xs)) : RowP E v0 v n xs w0 w := by
  obtain ⟨⟨h1, h2⟩, -⟩ := st.res hi
  exact ⟨h1, st.chg, fun k hk => (h2 k hk).imp (fun h => by simpa using h) id⟩
theorem St.frnGet (st : St w0 M hs w) {i : Nat} (hi : nth hs i = some (frn M w0.heap.size E v n xs)) : w.ownsRow 0 E 1 v n xs := (st.res hi).1.1

theorem St.frnN (st : St w0 M hs w) {i : Nat} (hi : nth hs i = some (frn M w0.heap.size E v n xs)) (hM : ∀ k ∈ M, n0 ≤ k) (hn : n0 ≤ w0.heap.size) : ∀ k, v.ownBlock = some k → n0 ≤ k := fun k hk => by
  rcases (st.res hi).1.2 k hk with h | h
  · exact hM k h
  · omega
theorem St.split2 {q r s : Res} (st : St w0 M (q :: hs) w) (h1 : ∀ k ∈ r.at?, k ∈ q.at?) (h2 : ∀ k ∈ s.at?, k ∈ q.at?) (h3 : ∀ k ∈ r.at?, k ∉ s.at?) (hr : r.holds w0.heap.size w) (hs' : s.holds w0.heap.size w) : St w0 M (r :: s :: hs) w := by
  have hnd := List.pairwise_cons.1 st.nodup
  refine ⟨st.chg, List.pairwise_cons.2 ⟨fun x hx => ?_, List.pairwise_cons.2 ⟨fun x hx k hk => hnd.1 x hx k (h2 k hk), hnd.2⟩⟩, fun x hx => ?_⟩
  · rcases List.mem_cons.1 hx with rfl | hx
    · exact h3
    · exact fun k hk => hnd.1 x hx k (h1 k hk)
  · rcases List.mem_cons.1 hx with rfl | hx
    · exact hr
    · rcases List.mem_cons.1 hx with rfl | hx
      · exact hs'
      · exact st.here x (.tail _ hx)

def Bx (E n0 T b : Nat) (v : Value) (l : List UInt8) (w : World) : Prop := w.heap[b]? = some (.cells #[v] T (0, 0)) ∧ w.ownsRow 0 E 1 v l.length (bytesL l) ∧ n0 ≤ b ∧ ∀ k, v.ownBlock = some k → n0 ≤ k ∧ k ≠ b
def BxP (E n0 T b : Nat) (v v' : Value) (l' : List UInt8) (w w' : World) : Prop := Bx E n0 T b v' l' w' ∧ Chg (b :: v.ownBlock.toList) w w' ∧ ∀ k, v'.ownBlock = some k → v.ownBlock = some k ∨ w.heap.size ≤ k
theorem Bx.lt (h : Bx E n0 T b v l w) : ∀ k ∈ b :: v.ownBlock.toList, k < w.heap.size := by
  obtain ⟨hb, ho, h1, h2⟩ := h
  intro k hk
  rcases List.mem_cons.1 hk with rfl | hk
  · exact (Array.getElem?_eq_some_iff.1 hb).1
  · exact (World.ownsRow.lt ho k (by simpa using hk)).2
theorem Bx.notin (h : Bx E n0 T b v l w) {k : Nat} (hk : k < n0) : k ∉ b :: v.ownBlock.toList := by
  obtain ⟨hb, ho, h1, h2⟩ := h
  intro h
  rcases List.mem_cons.1 h with rfl | h
  · omega
  · have := (h2 k (by simpa using h)).1; omega
/-- the box and its row, of the heads of what is held -/
theorem St.bxGet (st : St w0 M (.blk b (.cells [v].toArray T (0, 0)) :: frn M w0.heap.size E v l.length (bytesL l) :: hs) w) (hb : n0 ≤ b) (hn : ∀ k, v.ownBlock = some k → n0 ≤ k) : Bx E n0 T b v l w := by
  have h1 : w.heap[b]? = some (.cells #[v] T (0, 0)) := st.res (i := 0) rfl
  refine ⟨h1, (st.res (i := 1) rfl).1.1, hb, fun k hk => ⟨hn k hk, fun e => ?_⟩⟩
  subst e
  exact apart_nth (i := 0) (j := 1) st.nodup (by simp) rfl rfl k (.head _) (Option.mem_toList.2 hk)
theorem St.bxCall (st : St w0 M (.blk b (.cells [v].toArray T (0, 0)) :: frn M w0.heap.size E v l.length (bytesL l) :: hs) w) (hm : b ∈ M ∨ w0.heap.size ≤ b) (p : BxP E n0 T b v v' l' w w') :
    St w0 M (.blk b (.cells [v'].toArray T (0, 0)) :: frn M w0.heap.size E v' l'.length (bytesL l') :: hs) w' ∧ ∀ k, v'.ownBlock = some k → n0 ≤ k := by
  obtain ⟨⟨q1, q2, q3, q4⟩, p2, p3⟩ := p
  have h1 : w.heap[b]? = some (.cells #[v] T (0, 0)) := st.res (i := 0) rfl
  obtain ⟨⟨h2, h3⟩, -⟩ := st.res (i := 1) rfl
  have hb : b < w.heap.size := (Array.getElem?_eq_some_iff.1 h1).1
  have st1 := st.join (q := .tree (b :: v.ownBlock.toList) (fun _ => True)) (fun k hk => (List.mem_cons.1 hk).imp (fun h => by simp [Res.at?, h]) id) ⟨trivial, fun k hk => by
    rcases List.mem_cons.1 hk with rfl | hk
    · exact hb
    · exact (World.ownsRow.lt h2 k (by simpa using hk)).2, fun _ _ _ _ _ => trivial⟩
  have hlt : ∀ k ∈ b :: v'.ownBlock.toList, k < w'.heap.size := Bx.lt (n0 := n0) (l := l') ⟨q1, q2, q3, q4⟩
  have st2 := st1.swap (i := 0) (r' := .tree (b :: v'.ownBlock.toList) (fun _ => True)) rfl p2 (fun k hk => hk) (fun k hk => by
    rcases List.mem_cons.1 hk with rfl | hk
    · exact hm
    · exact h3 k (by simpa using hk)) (fun k hk => by
    rcases List.mem_cons.1 hk with rfl | hk
    · exact .inl (.head _)
    · exact (p3 k (by simpa using hk)).imp (fun h => .tail _ (Option.mem_toList.2 h)) id) ⟨trivial, hlt, fun _ _ _ _ _ => trivial⟩
  refine ⟨st2.split2 (fun k hk => by simp only [Res.at?, List.mem_singleton] at hk; subst hk; exact .head _) (fun k hk => .tail _ hk) (fun k hk hk' => ?_) q1 (frn_holds q2 fun k hk => ?_), fun k hk => (q4 k hk).1⟩
  · simp only [Res.at?, List.mem_singleton] at hk
    subst hk
    exact (q4 k (Option.mem_toList.1 hk')).2 rfl
  · rcases p3 k hk with h | h
    · exact h3 k h
    · exact .inr (Nat.le_trans st.chg.size h)
theorem St.bxInit (h : Bx E n0 T b v l w) : St w (b :: v.ownBlock.toList) [.blk b (.cells [v].toArray T (0, 0)), frn (b :: v.ownBlock.toList) w.heap.size E v l.length (bytesL l)] w := by
  obtain ⟨hb, ho, h1, h2⟩ := h
  refine ⟨Chg.refl _ _, List.pairwise_cons.2 ⟨fun s hs k hk hk' => ?_, List.pairwise_singleton _ _⟩, ?_⟩
  · simp only [List.mem_singleton] at hs
    subst hs
    simp only [Res.at?, List.mem_singleton] at hk
    subst hk
    exact (h2 k (Option.mem_toList.1 hk')).2 rfl
  · intro r hr
    simp only [List.mem_cons, List.not_mem_nil, or_false] at hr
    rcases hr with rfl | rfl
    · exact hb
    · exact frn_holds ho (fun k hk => .inl (.tail _ (Option.mem_toList.2 hk)))
theorem St.bxDone {v0 : Value} {i j len : Nat} (st : St w0 (b :: v0.ownBlock.toList) hs w) (hi : nth hs i = some (.blk b (.cells [v].toArray T (0, 0)))) (hj : nth hs j = some (frn (b :: v0.ownBlock.toList) w0.heap.size E v len (bytesL l))) (hl : l.length = len)
    (hn : n0 ≤ b) (h0 : ∀ k, v0.ownBlock = some k → n0 ≤ k ∧ k ≠ b) (hw : n0 ≤ w0.heap.size) : BxP E n0 T b v0 v l w0 w := by
  subst hl
  have hb : w.heap[b]? = some (.cells #[v] T (0, 0)) := st.res hi
  obtain ⟨⟨ho, hm⟩, -⟩ := st.res hj
  have key : ∀ k, v.ownBlock = some k → (v0.ownBlock = some k ∨ w0.heap.size ≤ k) ∧ n0 ≤ k ∧ k ≠ b := by
    intro k hk
    have hne : k ≠ b := by
      intro e
      have hij : i ≠ j := by
        rintro rfl
        rw [hi] at hj
        cases hj
      exact (apart_nth st.nodup hij hi hj) b (.head _) (Option.mem_toList.2 (e ▸ hk))
    rcases hm k hk with h | h
    · rcases List.mem_cons.1 h with rfl | h
      · exact absurd rfl hne
      · have h' : v0.ownBlock = some k := by simpa using h
        exact ⟨.inl h', (h0 k h').1, hne⟩
    · exact ⟨.inr h, by omega, hne⟩
  exact ⟨⟨hb, ho, hn, fun k hk => (key k hk).2⟩, st.chg, fun k hk => (key k hk).1⟩
end
end Sx

