/- A part of the proof: contracts of functions and plain laws; each theorem says its own conditions. -/
import Derived.Laws.OwnMore
import Derived.Laws.StructEq
import Derived.Great.BuildSlice
import Derived.Lib.AppendStr
import Derived.Laws.BytesArg
import Derived.Laws.MakeOwn
import Derived.WalkKit
import Derived.ProofKit
import Derived.OpenShut
import Derived.ChangeOld
import Derived.OpenVars
import Derived.Below
import Derived.Maps.RangeRun
import Derived.Test.YtjoepkpdanolkaaGreatDoorTopReckonedK0
set_option linter.unusedVariables false
set_option linter.unusedSimpArgs false
/- The engine, fifth part: append. -/
namespace Sx
open Go Go.RowKit

section
variable {w0 w w' : World} {M : List Nat} {hs : List Res}

theorem St.app (st : St w0 M hs w) {i e size n n' : Nat} {v v' : Value} {xs xs' : List Value} (hi : nth hs i = some (.own v e size n xs)) (hg : w.grownBy w' v.ownBlock)
    (hown : w'.ownsRow w0.heap.size e size v' n' xs') (hat : v'.ownBlock = v.ownBlock ∨ v'.ownBlock = some w.heap.size) :
    St w0 M (setNth hs i (.own v' e size n' xs')) w' :=
  st.swap hi (Chg.of_grownByO hg) (by simp [Res.at?]) (fun k hk => .inr ((World.ownsRow.lt (st.res hi) k (by simpa using hk)).1)) (fun k hk => by
    simp only [Res.at?] at hk ⊢
    rcases hat with h | h
    · rw [h] at hk; exact .inl hk
    · rw [h] at hk; simp at hk; exact .inr (by omega)) hown

/-- an owned slice that is nil comes to be -/
theorem St.ownNil (st : St w0 M hs w) (e size : Nat) : St w0 M (.own (.slice none 0 0) e size 0 [] :: hs) w :=
  st.pushR (Chg.refl _ _) (World.ownsRow_nil w _ e size) (by simp [Res.at?, Value.ownBlock])

theorem ownsRow_base {base base' e size n : Nat} {v : Value} {xs : List Value} (h : w.ownsRow base e size v n xs) (hb : base' ≤ base) : w.ownsRow base' e size v n xs :=
  ⟨h.1, h.2.imp id fun ⟨g, cap, cur, h1, h2, h3⟩ => ⟨g, cap, cur, h1, Nat.le_trans hb h2, h3⟩⟩

/-- a callee hands back a row of its own -/
theorem St.pushOwn (st : St w0 M hs w) (c : Chg [] w w') {v : Value} {e size n : Nat} {xs : List Value} (h : w'.ownsRow w.heap.size e size v n xs) : St w0 M (.own v e size n xs :: hs) w' :=
  st.pushR c (ownsRow_base h st.chg.size) (fun k hk => (World.ownsRow.lt h k (by simpa [Res.at?] using hk)).1)

variable {P : Program} {n : Fr} {L : List Oper} {Q : Exit → Act → World → Prop} {kn : Kn} {N : Act → World → Prop}
variable {d ty : Nat} {pos : String} {aft : Array Edge} {g : Option (Nat × Bool)}

/-- append(v, x..): an owned slice, and a row of new cells that is held -/
theorem e_app (st : St w0 M hs w) (i j : Nat) {T E size bytes m len c b : Nat} {x y : Operand} {v z : Value} {xs l : List Value} {fz : Nat × Nat} {ti : TypeInfo} (hw : gd L kn g = some true) (hd : okDst n (some d) = true)
    (hx : evO kn x = some v) (hy : evO kn y = some (.slice (some ⟨b, 0, none⟩) m c)) (hi : nth hs i = some (.own v E size len xs)) (hj : nth hs j = some (.blk b (.cells l.toArray E fz)))
    (ht : P.underlying T = some (.slice E)) (hinfo : P.info? E = some ti) (hz : ti.zero = some z) (hsize : ti.size = size) (hby : ti.bytes = bytes) (hzs : z.cells.size = size) (hsz : Nat.blt 0 size = true)
    (hl : l.length = m * size) (h1 : allOne l = true) (hm : Nat.blt 0 m = true) (h63 : len + m ≤ maxLen) (hbytes : (len + m) * bytes ≤ 140737488355328)
    (next : ∀ oa cap w', St w0 M (setNth hs i (.own (.slice oa (len + m) cap) E size (len + m) (xs ++ l))) w' → vN n N ((d, .slice oa (len + m) cap) :: kn) w') :
    vS P n L Q ⟨some d, .call ⟨.builtin .append, #[x, y], #[T, T]⟩, ty, pos, aft, g⟩ N kn w := by
  have hb : w.heap[b]? = some (.cells l.toArray E fz) := st.res hj
  have hm' : 0 < m := by simpa [Nat.blt_eq] using hm
  obtain ⟨v', w', hr, hown, hg, hnil, hat⟩ := run_append_own_at (P := P) w w0.heap.size T ty E ti z size bytes ht hinfo hz hsize hby hzs (by simpa [Nat.blt_eq] using hsz) v len xs (st.res hi) ⟨b, 0, none⟩ m c l hl
    (fun k u hk => by rw [addr_add]; exact cell_blk hb (by rw [nth_eq]; simpa using hk)) (allOne_spec h1) h63 hbytes st.chg.size
  obtain ⟨oa, cap, rfl⟩ : ∃ oa cap, v' = .slice oa (len + m) cap := by
    rcases hown.2 with ⟨rfl, h0⟩ | ⟨g, cap, cur, rfl, _⟩
    · omega
    · exact ⟨_, _, rfl⟩
  refine e_bi [v, .slice (some ⟨b, 0, none⟩) m c] hw hd (by simp [hx, hy]) (w' := w') (fun cs => ?_) (next oa cap w' (st.app hi hg hown hat))
  simp only [builtin, Sem.run_bind, List.toArray, hr]
  rfl
end
end Sx


/- The engine, sixth part: loads from a row that is owned. -/
namespace Sx
open Go Go.RowKit
section
variable {w0 w w' : World} {M : List Nat} {hs : List Res}
variable {P : Program} {n : Fr} {L : List Oper} {Q : Exit → Act → World → Prop} {kn : Kn} {N : Act → World → Prop}
variable {d ty : Nat} {pos : String} {aft : Array Edge} {g : Option (Nat × Bool)}

theorem own_cell {base e size len cap b off : Nat} {xs : List Value} {v : Value} (h : w.ownsRow base e size (.slice (some ⟨b, 0, none⟩) len cap) len xs) (hv : xs[off]? = some v) : w.cell? ⟨b, off, none⟩ = some v := by
  have hl : off < xs.length := (List.getElem?_eq_some_iff.1 hv).1
  rw [World.ownsRow.cellAt h off (by rw [← h.1]; exact hl), hv]

theorem y_ldo (st : St w0 M hs w) (i : Nat) {x : Operand} {T b off e size len cap : Nat} {xs : List Value} {v : Value} (hx : evO kn x = some (.pointer (some ⟨b, off, none⟩)))
  (ha : ∀ w, (Go.isAgg T).run P w = .ok false w) (hi : nth hs i = some (.own (.slice (some ⟨b, 0, none⟩) len cap) e size len xs)) (hv : xs[off]? = some v) : Y P n kn w ⟨some d, .load T x, ty, pos, aft, g⟩ v :=
  y_ldc hx ha (own_cell (st.res hi) hv)

theorem y_ldoa (st : St w0 M hs w) (i : Nat) {x : Operand} {T b off e size len cap sz : Nat} {xs : List Value} {vs : List Value} (hx : evO kn x = some (.pointer (some ⟨b, off, none⟩)))
  (ha : ∀ w, (Go.isAgg T).run P w = .ok true w) (hsz : ∀ w, (Go.sizeOf T).run P w = .ok sz w) (hi : nth hs i = some (.own (.slice (some ⟨b, 0, none⟩) len cap) e size len xs)) (hl : vs.length = sz)
  (hv : ∀ j v, vs[j]? = some v → xs[off + j]? = some v) : Y P n kn w ⟨some d, .load T x, ty, pos, aft, g⟩ (.agg vs.toArray) :=
  y_ldca vs hx ha hsz hl (fun j v hj => own_cell (st.res hi) (hv j v hj))

theorem own_form {base e size n : Nat} {v : Value} {xs : List Value} (h : w.ownsRow base e size v n xs) (hn : 0 < n) :
    ∃ g cap, v = .slice (some ⟨g, 0, none⟩) n cap ∧ base ≤ g := by
  rcases h.2 with ⟨_, h0⟩ | ⟨g, cap, cur, hv, hb, hg, _⟩
  · omega
  · exact ⟨g, cap, hv, hb⟩

end
end Sx


/- The engine, seventh part: append of a row that can be read; stores into a row that is owned; slice literals. -/
namespace Sx
open Go Go.RowKit
section
variable {w0 w w' : World} {M : List Nat} {hs : List Res}
variable {P : Program} {n : Fr} {L : List Oper} {Q : Exit → Act → World → Prop} {kn : Kn} {N : Act → World → Prop}
variable {d ty : Nat} {pos : String} {aft : Array Edge} {g : Option (Nat × Bool)}

theorem run_storeCells_own (base E size len cap b : Nat) : ∀ (vs : List Value) (xs : List Value) (off i : Nat) (w : World), w.ownsRow base E size (.slice (some ⟨b, 0, none⟩) len cap) len xs → off + i + vs.length ≤ xs.length → (∀ v ∈ vs, v.oneCell' = true) →
    ∃ w' xs', (storeCells ⟨b, off, none⟩ vs i).run P w = .ok () w' ∧ w'.ownsRow base E size (.slice (some ⟨b, 0, none⟩) len cap) len xs' ∧ w.grownBy w' (some b) ∧ xs' = xs.take (off + i) ++ vs ++ xs.drop (off + i + vs.length)
  | [], xs, off, i, w, h, hl, h1 => ⟨w, xs, by simp [storeCells, go_sem], h, ⟨rfl, rfl, rfl, Nat.le_refl _, fun _ _ _ => rfl⟩, by simp⟩
  | v :: vs, xs, off, i, w, h, hl, h1 => by
    simp only [List.length_cons] at hl
    have hc : w.cell? ⟨b, off + i, none⟩ = some (xs[off + i]'(by omega)) := own_cell h (by simp)
    have hf : w.frozen? ⟨b, off + i, none⟩ = false := World.ownsRow.frozenAt h _
    have h' := World.ownsRow.stored h (off + i) v
    obtain ⟨w', xs', hr, hh, hg', hl'⟩ := run_storeCells_own base E size len cap b vs (xs.set (off + i) v) off (i + 1) _ h'.1 (by simp; omega) (fun u hu => h1 u (.tail _ hu))
    refine ⟨w', xs', ?_, hh, ⟨hg'.os.trans h'.2.os, hg'.tape.trans h'.2.tape, hg'.output.trans h'.2.output, Nat.le_trans h'.2.size hg'.size, fun k hk hn => (hg'.block k (Nat.lt_of_lt_of_le hk h'.2.size) hn).trans (h'.2.block k hk hn)⟩, ?_⟩
    · have hone : v.oneCell' = true := h1 v (.head _)
      have hst : (store ⟨b, off + i, none⟩ v).run P w = .ok () (w.setCell ⟨b, off + i, none⟩ v) := by
        cases v <;> first | (simp [Value.oneCell'] at hone; done) | simp [store, Sem.run, hc, hf]
      simp only [storeCells, Sem.run_bind, addr_add, hst, Result.andThen_ok]
      exact hr
    · rw [hl', show off + (i + 1) = (off + i) + 1 from by omega, List.take_set, List.drop_set, if_pos (by omega), List.take_succ_eq_append_getElem (by omega : off + i < xs.length)]
      rw [List.set_append_right _ _ (by simp; omega)]
      simp only [List.length_take, Nat.min_eq_left (by omega : off + i ≤ xs.length), Nat.sub_self, List.set_cons_zero, List.append_assoc, List.cons_append, List.nil_append, List.length_cons]
      try rw [show off + i + 1 + vs.length = off + i + (vs.length + 1) from by omega]

/-- a store into a row that is owned -/
theorem e_stso (st : St w0 M hs w) (i : Nat) {x y : Operand} {T b off E size len cap : Nat} {xs : List Value} {v : Value} {vs : List Value} (hw : gd L kn g = some true) (hx : evO kn x = some (.pointer (some ⟨b, off, none⟩)))
    (hy : evO kn y = some v) (hv : v.cells.toList = vs) (h1 : allOne vs = true) (hsz : ∀ w, (Go.sizeOf T).run P w = .ok vs.length w)
    (hi : nth hs i = some (.own (.slice (some ⟨b, 0, none⟩) len cap) E size len xs)) (hlt : off + vs.length ≤ xs.length)
    (next : ∀ w', St w0 M (setNth hs i (.own (.slice (some ⟨b, 0, none⟩) len cap) E size len (xs.take off ++ vs ++ xs.drop (off + vs.length)))) w' → vN n N kn w') : vS P n L Q (⟨none, .store T x y, ty, pos, aft, g⟩) N kn w := by
  obtain ⟨w', xs', hr, hh, hg', hl⟩ := run_storeCells_own (P := P) w0.heap.size E size len cap b vs xs off 0 w (st.res hi) (by simpa using hlt) (allOne_spec h1)
  have hl' : xs' = xs.take off ++ vs ++ xs.drop (off + vs.length) := by simpa using hl
  subst hl'
  refine e_do hw rfl (w' := w') (fun a ha => ?_) (next w' (st.app hi hg' hh (.inl rfl)))
  simp only [execOp, ha.ev hx, ha.ev hy]
  have hsz' : v.cells.size = vs.length := by rw [← hv]; simp
  have key : (storeVar T ⟨b, off, none⟩ v).run P w = .ok () w' := by
    simp only [storeVar, Sem.run_bind, hsz, Result.andThen_ok, hsz', ne_eq, not_true_eq_false, ↓reduceIte, hv, hr]
  simp only [Instr.storeAt, Instr.sureAddr, Sem.run_bind, Sem.run_pure, Result.andThen_ok, key]

/-- a slice literal, by its run -/
theorem e_bsn (st : St w0 M hs w) {T E len : Nat} {parts : Array (Nat × Operand)} {l : List Value} (vals : List (Nat × Value)) (hw : gd L kn g = some true) (hd : okDst n (some d) = true)
    (hv : parts.toList.map (fun p => (evO kn p.2).map (p.1, ·)) = vals.map some)
    (hrun : ∀ w, (Instr.buildSlice T len vals.toArray).run P w = .ok (.slice (some ⟨w.heap.size, 0, none⟩) len len) (w.alloc (.cells l.toArray E (0, 0))))
    (next : ∀ b w', w0.heap.size ≤ b → St w0 M (.blk b (.cells l.toArray E (0, 0)) :: hs) w' → vN n N ((d, .slice (some ⟨b, 0, none⟩) len len) :: kn) w') :
    vS P n L Q ⟨some d, .buildSlice T len parts, ty, pos, aft, g⟩ N kn w := by
  refine e_new st (v := .slice (some ⟨w.heap.size, 0, none⟩) len len) (l := l) (E := E) hw hd (fun a ha => ?_) (fun b w' e hb st' => by subst e; exact next _ w' hb st')
  have hargs : (parts.map fun (i, x) => (i, a.eval x)) = vals.toArray := by
    apply Array.toList_inj.1
    rw [Array.toList_map]
    generalize parts.toList = az at hv
    simp only
    clear hrun
    induction az generalizing vals with
    | nil => cases vals with | nil => rfl | cons v vs => simp at hv
    | cons x xs ih =>
      cases vals with
      | nil => simp at hv
      | cons v vs =>
        simp only [List.map_cons, List.cons.injEq] at hv
        obtain ⟨h1, h2⟩ := hv
        cases hx : evO kn x.2 with
        | none => simp [hx] at h1
        | some u =>
          simp only [hx, Option.map_some, Option.some.injEq] at h1
          subst h1
          simp only [List.map_cons, ha.ev hx, ih vs h2]
  simp only [execOp, hargs, Sem.run_bind, hrun, Result.andThen_ok, Sem.run_pure]

/-- a new row is owned -/
theorem St.toOwn {b E : Nat} {l : List Value} (st : St w0 M (.blk b (.cells l.toArray E (0, 0)) :: hs) w) {len size : Nat} (hb : w0.heap.size ≤ b) (hlen : l.length = len * size) (hm : len ≤ maxLen) :
    St w0 M (.own (.slice (some ⟨b, 0, none⟩) len len) E size len l :: hs) w := by
  have hh := st.res (i := 0) rfl
  refine st.turn0 (fun k hk => by simpa [Res.at?, Value.ownBlock] using hk) ⟨hlen, .inr ⟨b, len, l.toArray, rfl, hb, hh, Nat.le_refl _, hm, by simpa using hlen, ?_⟩⟩
  simp only [← hlen]
  exact List.take_of_length_le (by simp)
/-- []T{} -/
theorem e_bs0 (st : St w0 M hs w) {T E sz : Nat} (hw : gd L kn g = some true) (hd : okDst n (some d) = true)
    (ht : P.underlying T = some (.slice E)) (hs1 : ∀ w, (Go.sizeOf E).run P w = .ok sz w)
    (next : ∀ b w', w0.heap.size ≤ b → St w0 M (.own (.slice (some ⟨b, 0, none⟩) 0 0) E sz 0 [] :: hs) w' → vN n N ((d, .slice (some ⟨b, 0, none⟩) 0 0) :: kn) w') :
    vS P n L Q ⟨some d, .buildSlice T 0 #[], ty, pos, aft, g⟩ N kn w := by
  refine e_bsn st (l := []) (E := E) [] hw hd rfl (fun w => ?_) (fun b w' hb st' => next b w' hb (st'.toOwn hb (by simp) (Nat.zero_le _)))
  simp [Instr.buildSlice, run_underlying ht, hs1, Instr.fill, newRow, newObj, Sem.run, go_sem]
end
end Sx


/- The engine, twelfth part: slices of slices; what a row that is owned reads as. -/
namespace Sx
open Go Go.RowKit
section
variable {w0 w w' : World} {M : List Nat} {hs : List Res}
variable {P : Program} {n : Fr} {L : List Oper} {Q : Exit → Act → World → Prop} {kn : Kn} {N : Act → World → Prop}
variable {d ty : Nat} {pos : String} {aft : Array Edge} {g : Option (Nat × Bool)}

theorem addr_add0 (a : Addr) : a.add 0 = a := by unfold Addr.add; simp

/-- x[:j] of a slice -/
theorem y_slh {x hi : Operand} {T E sz j len cap : Nat} {oa : Option Addr} {jk : IntKind} {jj : Int} (hx : evO kn x = some (.slice oa len cap))
  (hhi : evO kn hi = some (.int jk jj)) (ht : P.underlying T = some (.slice E)) (hs : ∀ w, (Go.sizeOf E).run P w = .ok sz w) (hj1 : jj = (j : Int)) (hj : j ≤ cap) : Y P n kn w ⟨some d, .slice T x none (some hi) none, ty, pos, aft, g⟩ (.slice oa j cap) :=
  (fun a ha => by
    subst hj1
    have h2 : (j : Int) ≤ (cap : Int) := by omega
    simp only [execOp, Option.map_some, Option.map_none, ha.ev hx, ha.ev hhi]
    simp only [Instr.sliceAt, Instr.slice, Instr.sliceBounds, Instr.sliceBound, asIntOf, Sem.run_bind, run_underlying ht, Result.andThen_ok, hs]
    simp [hj, hs]
    intro _; cases oa <;> simp [addr_add0])
end
end Sx


/- The engine, thirteenth part: bytes: append of a string's, a string of bytes; max; make. -/
namespace Sx
open Go Go.RowKit Go.Lib

abbrev bytesL (l : List UInt8) : List Value := l.map fun b => Value.int .u8 (b.toNat : Int)
theorem strCells_eq (l : List UInt8) : strCells ⟨l.toArray⟩ = bytesL l := by simp [strCells]

section
variable {w0 w w' : World} {M : List Nat} {hs : List Res}
variable {P : Program} {n : Fr} {L : List Oper} {Q : Exit → Act → World → Prop} {kn : Kn} {N : Act → World → Prop}
variable {d ty : Nat} {pos : String} {aft : Array Edge} {g : Option (Nat × Bool)}

/-- a row that can be read, at a plain address -/
def RdRowP (w : World) (oa : Option Addr) (c : Nat) (l : List Value) : Prop := (oa = none ∧ l = [] ∧ c = 0) ∨ ∃ b off, oa = some ⟨b, off, none⟩ ∧ ∀ k u, l[k]? = some u → w.cell? ⟨b, off + k, none⟩ = some u
theorem own_rdp {base e size m c : Nat} {oa : Option Addr} {xs : List Value} (h : w.ownsRow base e size (.slice oa m c) m xs) : RdRowP w oa c xs := by
  rcases Nat.eq_zero_or_pos m with hm | hm
  · subst hm
    have h0 : xs = [] := by apply List.eq_nil_of_length_eq_zero; rw [h.1]; simp
    subst h0
    rcases h.2 with ⟨e, _⟩ | ⟨g, cap, cur, e, _⟩
    · simp only [Value.slice.injEq] at e; exact .inl ⟨e.1, rfl, e.2.2⟩
    · simp only [Value.slice.injEq] at e; exact .inr ⟨g, 0, e.1, fun k u hk => by simp at hk⟩
  · obtain ⟨g, cap, e, _⟩ := own_form h hm
    simp only [Value.slice.injEq] at e
    obtain ⟨rfl, -, rfl⟩ := e
    exact .inr ⟨g, 0, rfl, fun k u hk => by rw [Nat.zero_add]; exact own_cell h hk⟩
theorem app_str (base : Nat) {T U tyy E : Nat} {ti : TypeInfo} (ht : P.underlying T = some (.slice E)) (hu : P.underlying U = some .string) (hi : P.info? E = some ti) (hz : ti.zero = some (.int .u8 0)) (hsize : ti.size = 1) (hby : ti.bytes = 1)
    {v : Value} {m : Nat} {xs : List Value} (hown : w.ownsRow base E 1 v m xs) (p : List UInt8) (h63 : m + p.length ≤ maxLen) (hbytes : m + p.length ≤ 140737488355328) (hbase : base ≤ w.heap.size) :
    ∃ v' w', (Builtin.append_ #[T, U] tyy #[v, str p]).run P w = .ok v' w' ∧ w'.ownsRow base E 1 v' (m + p.length) (xs ++ bytesL p) ∧ w.grownBy w' v.ownBlock ∧ (∀ k, v'.ownBlock = some k → v.ownBlock = some k ∨ w.heap.size ≤ k) := by
  have hs : (⟨p.toArray⟩ : ByteArray).size = p.length := rfl
  obtain ⟨v', w', hr, ho, hg, hn⟩ := run_append_own_string (P := P) (ty := tyy) w base T U E ti ht hu hi hz hsize hby v m xs hown ⟨p.toArray⟩ h63 hbytes hbase
  rw [strCells_eq, hs] at ho
  refine ⟨v', w', hr, ho, hg, fun k hk => ?_⟩
  rcases hown.2 with ⟨rfl, rfl⟩ | ⟨b, cap, cur, rfl, hbg, hb, hnc, hcm, hcs, htake⟩
  · have hx : xs = [] := List.eq_nil_of_length_eq_zero (by simpa using hown.1)
    subst hx
    obtain ⟨v2, w2, hr2, ho2, _⟩ := run_append_own_string (P := P) (ty := tyy) w w.heap.size T U E ti ht hu hi hz hsize hby _ 0 [] (World.ownsRow_nil w _ E 1) ⟨p.toArray⟩ h63 hbytes (Nat.le_refl _)
    rw [hr] at hr2
    cases hr2
    exact .inr (World.ownsRow.lt ho2 k hk).1
  · have hcs' : cur.size = cap := by simpa using hcs
    have hxl : xs.length = m := by simpa using hown.1
    by_cases hroom : m + p.length ≤ cap
    · have hr2 := run_append_room_string (P := P) (ty := tyy) w T U E ti ht hu hi hsize b m cap cur hb ⟨p.toArray⟩ hroom (by rw [hs]; omega)
      rw [hr] at hr2
      cases hr2
      exact .inl hk
    · have hc : ∀ j u, xs[j]? = some u → w.cell? ((⟨b, 0, none⟩ : Addr).add j) = some u := World.ownsRow.cells hown rfl
      have hr2 := run_append_grow_string (P := P) (ty := tyy) w T U E ti (.int .u8 0) ht hu hi hz ⟨b, 0, none⟩ m cap xs (by rw [hsize]; simpa using hxl) hc ⟨p.toArray⟩ (by rw [hs]; omega) (by unfold maxLen at h63; omega) (by rw [hby]; exact growslice_fits (by omega) (by omega))
      rw [hr] at hr2
      cases hr2
      simp only [Value.ownBlock] at hk
      simp at hk
      exact .inr (by omega)

/-- string(bytes) -/
theorem y_b2s {x : Operand} {T U E m c : Nat} {oa : Option Addr} {p : List UInt8} (hx : evO kn x = some (.slice oa m c)) (hrd : RdRowP w oa c (bytesL p)) (hm : p.length = m)
    (ht : P.underlying T = some (.slice E)) (he : P.underlying E = some (.int .u8)) (hu : P.underlying U = some .string) : Y P n kn w ⟨some d, .convert T U x, ty, pos, aft, g⟩ (str p) := fun a ha => by
  simp only [execOp, ha.ev hx]
  rcases hrd with ⟨rfl, h0, rfl⟩ | ⟨b, off, rfl, hc⟩
  · obtain rfl : p = [] := by simpa [bytesL] using h0
    have := run_convert_bytes_nil (P := P) w T E ht he m 0 U hu
    simp [this]
    rfl
  · have := run_convert_bytes_arg (P := P) w T E ht he b off m c (p.map fun b => (b.toNat : Int)) (by simpa using hm) (fun i hi => by
      have hi' : i < p.length := by omega
      have h := hc i (.int .u8 (p[i].toNat : Int)) (by simp [bytesL, hi'])
      rw [h]
      simp [List.getD, hi']) U hu
    have e : strOfNums (p.map fun b => (b.toNat : Int)) = ⟨p.toArray⟩ := by
      simp [strOfNums, Function.comp_def]
    simp [this, e]

end
end Sx
namespace Sx
open Go Go.RowKit
section
variable {w0 w : World} {M : List Nat} {hs : List Res}
def pickL {α : Type} (l : List α) : List Nat → Option (List α)
  | [] => some []
  | i :: is => match nth l i with | none => none | some x => match pickL l is with | none => none | some r => some (x :: r)
theorem apart_nth {hs : List Res} (h : Apart hs) : ∀ {i j : Nat} {r s : Res}, i ≠ j → nth hs i = some r → nth hs j = some s → ∀ k ∈ r.at?, k ∉ s.at? := by
  induction hs with
  | nil => intro i j r s _ h; simp [nth] at h
  | cons x xs ih =>
    intro i j r s hij hi hj k hk hk'
    have hp := List.pairwise_cons.1 h
    cases i with
    | zero =>
      cases j with
      | zero => exact hij rfl
      | succ j => simp [nth] at hi hj; subst hi; exact hp.1 s (mem_nth hj) k hk hk'
    | succ i =>
      cases j with
      | zero => simp [nth] at hi hj; subst hj; exact hp.1 r (mem_nth hi) k hk' hk
      | succ j => simp [nth] at hi hj; exact ih hp.2 (by omega) hi hj k hk hk'
theorem mem_pick {α : Type} {l : List α} : ∀ {is : List Nat} {r : List α}, pickL l is = some r → ∀ x ∈ r, ∃ i ∈ is, nth l i = some x
  | [], r, h, x, hx => by simp [pickL] at h; subst h; simp at hx
  | i :: is, r, h, x, hx => by
    simp only [pickL] at h
    split at h
    · cases h
    · rename_i y hy
      split at h
      · cases h
      · rename_i q hq
        cases h
        rcases List.mem_cons.1 hx with rfl | hx
        · exact ⟨i, .head _, hy⟩
        · obtain ⟨j, hj, hn⟩ := mem_pick hq x hx
          exact ⟨j, .tail _ hj, hn⟩
/-- some of what is held, in another order -/
theorem St.pick (st : St w0 M hs w) (is : List Nat) {hs' : List Res} (h : pickL hs is = some hs') (hn : is.Nodup) : St w0 M hs' w := by
  refine ⟨st.chg, ?_, fun r hr => ?_⟩
  · have hnd := st.nodup
    clear st
    induction is generalizing hs' with
    | nil => simp [pickL] at h; subst h; exact List.Pairwise.nil
    | cons i is ih =>
      simp only [pickL] at h
      split at h
      · cases h
      · rename_i y hy
        split at h
        · cases h
        · rename_i q hq
          cases h
          have hn' := List.nodup_cons.1 hn
          refine List.pairwise_cons.2 ⟨fun s hs k hk => ?_, ih hq hn'.2⟩
          obtain ⟨j, hj, hs⟩ := mem_pick hq s hs
          exact apart_nth hnd (fun e => hn'.1 (by subst e; exact hj)) hy hs k hk
  · obtain ⟨i, _, hi⟩ := mem_pick h r hr
    exact st.here r (mem_nth hi)
end
end Sx


/- The engine, fourteenth part: arguments opened, and shut as they were. -/
namespace Sx
open Go Go.RowKit

section
variable {H : Type} {enc : TypeId × Value → H} {P : Program}

theorem trod_shut (hl : laidOutB P = true) {w w' : World} (hb : Below w.heap.size w w') {t : TypeId} {v : Value} {d : DataW H} {ps : List MemPlace} (hr : P.readableRec t = true) (ht : t < P.types.size)
    (h : DataW.Trod enc P w 0 (fun _ => true) true t v d ps) (hlt : ∀ x ∈ ps, x.block < w.heap.size) : DataW.Trod enc P w' 0 (fun b => decide (b < w.heap.size)) true t v d ps := by
  obtain ⟨fuel, hf⟩ := h
  exact ⟨fuel, DataW.trod_stays (kids_book hl hr) (book_sized hr) (fun h => by cases h) ⟨ht, book_self t⟩ hf (fun x hx => hb.same (hlt x hx)) (fun x hx => by simpa using hlt x hx)⟩

/-- all arguments read as they did, where nothing that was there has changed -/
theorem trodAll_shut (hl : laidOutB P = true) {w w' : World} (hb : Below w.heap.size w w') : ∀ {ts : List TypeId} {vs : List Value} {ds : List (DataW H)} {ps : List MemPlace}, (ts.all fun t => P.readableRec t && decide (t < P.types.size)) = true →
    DataW.TrodAll enc P w 0 (fun _ => true) true ts vs ds ps → (∀ x ∈ ps, x.block < w.heap.size) → DataW.TrodAll enc P w' 0 (fun b => decide (b < w.heap.size)) true ts vs ds ps
  | [], [], [], ps, _, h, _ => h
  | t :: ts, v :: vs, d :: ds, ps, hr, h, hlt => by
    obtain ⟨p, q, h1, h2, rfl⟩ := h
    simp only [List.all_cons, Bool.and_eq_true, decide_eq_true_eq] at hr
    exact ⟨p, q, trod_shut hl hb hr.1.1 hr.1.2 h1 (fun x hx => hlt x (List.mem_append.2 (.inl hx))), trodAll_shut hl hb (by simpa using hr.2) h2 (fun x hx => hlt x (List.mem_append.2 (.inr hx))), rfl⟩
  | [], [], _ :: _, _, _, h, _ => h.elim
  | [], _ :: _, _, _, _, h, _ => h.elim
  | _ :: _, [], _, _, _, h, _ => h.elim
  | _ :: _, _ :: _, [], _, _, h, _ => h.elim

end
end Sx


/- The engine, fifteenth part: the trees of the language, as memory holds them. -/
namespace Sx
open Go Go.RowKit

/-- an expression -/
inductive Ex where
  | mk (k op wd : Int) (nm : List UInt8) (kids : List Ex) (a : Int)
/-- a statement -/
inductive Sm where
  | mk (k : Int) (nm other : List UInt8) (e : List Ex) (body els : List Sm) (a : Int)
/-- a declaration -/
structure Dc where
  nm : List UInt8
  wd : Int
  a : Int
/-- a thread -/
structure Th where
  nm : List UInt8
  locals : List Dc
  body : List Sm
  a : Int
/-- a program -/
structure Pg where
  shared : List Dc
  locks : List Dc
  threads : List Th

def ex0 : Ex := .mk 0 0 0 [] [] 0
def dc0 : Dc := ⟨[], 0, 0⟩
namespace Ex
def k : Ex → Int | .mk k _ _ _ _ _ => k
def op : Ex → Int | .mk _ op _ _ _ _ => op
def wd : Ex → Int | .mk _ _ wd _ _ _ => wd
def nm : Ex → List UInt8 | .mk _ _ _ nm _ _ => nm
def kids : Ex → List Ex | .mk _ _ _ _ kids _ => kids
def a : Ex → Int | .mk _ _ _ _ _ a => a
theorem eta (e : Ex) : e = .mk e.k e.op e.wd e.nm e.kids e.a := by cases e; rfl
end Ex
namespace Sm
def k : Sm → Int | .mk k _ _ _ _ _ _ => k
def nm : Sm → List UInt8 | .mk _ nm _ _ _ _ _ => nm
def other : Sm → List UInt8 | .mk _ _ o _ _ _ _ => o
def e : Sm → List Ex | .mk _ _ _ e _ _ _ => e
def body : Sm → List Sm | .mk _ _ _ _ b _ _ => b
def els : Sm → List Sm | .mk _ _ _ _ _ e _ => e
def a : Sm → Int | .mk _ _ _ _ _ _ a => a
end Sm

/-- a row of things of 'sz' cells, at blocks of 'S' -/
def RowC (w : World) (S : Nat → Prop) (sz : Nat) (oa : Option Addr) (n : Nat) (vs : Nat → List Value) : Prop :=
  n = 0 ∨ ∃ b off, oa = some ⟨b, off, none⟩ ∧ S b ∧ b < w.heap.size ∧ ∀ j, j < n → (vs j).length = sz ∧ ∀ i v, (vs j)[i]? = some v → w.cell? ⟨b, off + j * sz + i, none⟩ = some v

def Same (S : Nat → Prop) (w w' : World) : Prop := w.heap.size ≤ w'.heap.size ∧ ∀ b, S b → b < w.heap.size → w'.heap[b]? = w.heap[b]?
theorem Same.of_chg {M : List Nat} {S : Nat → Prop} {w w' : World} (c : Chg M w w') (h : ∀ b, S b → b ∉ M) : Same S w w' := ⟨c.size, fun b hb hl => c.block b hl (h b hb)⟩
theorem Same.of_nil {S : Nat → Prop} {w w' : World} (c : Chg [] w w') : Same S w w' := .of_chg c (by simp)
theorem RowC.kept {w w' : World} {S : Nat → Prop} {sz : Nat} {oa : Option Addr} {n : Nat} {vs : Nat → List Value} (h : RowC w S sz oa n vs) (k : Same S w w') : RowC w' S sz oa n vs :=
  h.imp id fun ⟨b, off, e, hb, hl, hc⟩ => ⟨b, off, e, hb, Nat.lt_of_lt_of_le hl k.1, fun j hj => ⟨(hc j hj).1, fun i v hi => (World.cell?_of_block (k.2 b hb hl)).trans ((hc j hj).2 i v hi)⟩⟩
/-- an expression's cells -/
inductive ExV (w : World) (S : Nat → Prop) : Ex → List Value → Prop
  | mk {k op wd : Int} {nm : List UInt8} {kids : List Ex} {a : Int} {oa : Option Addr} {cap : Nat} (vs : Nat → List Value) (hr : RowC w S 6 oa kids.length vs) (hk : ∀ j x, kids[j]? = some x → ExV w S x (vs j)) :
      ExV w S (.mk k op wd nm kids a) [.int .u8 k, .int .u8 op, .int .i64 wd, str nm, .slice oa kids.length cap, .int .i64 a]
theorem ExV.kept {w w' : World} {S : Nat → Prop} {e : Ex} {l : List Value} (h : ExV w S e l) (k : Same S w w') : ExV w' S e l := by
  induction h with
  | mk vs hr hk ih => exact .mk vs (hr.kept k) ih
/-- a row of expressions -/
def ExRow (w : World) (S : Nat → Prop) (oa : Option Addr) (es : List Ex) : Prop := ∃ vs, RowC w S 6 oa es.length vs ∧ ∀ j x, es[j]? = some x → ExV w S x (vs j)
/-- a statement's cells -/
inductive SmV (w : World) (S : Nat → Prop) : Sm → List Value → Prop
  | mk {k : Int} {nm other : List UInt8} {e : List Ex} {body els : List Sm} {a : Int} {oe ob ol : Option Addr} {ce cb cl : Nat} (vb vl : Nat → List Value) (he : ExRow w S oe e)
      (hb : RowC w S 7 ob body.length vb) (hbk : ∀ j x, body[j]? = some x → SmV w S x (vb j)) (hl : RowC w S 7 ol els.length vl) (hlk : ∀ j x, els[j]? = some x → SmV w S x (vl j)) :
      SmV w S (.mk k nm other e body els a) [.int .u8 k, str nm, str other, .slice oe e.length ce, .slice ob body.length cb, .slice ol els.length cl, .int .i64 a]
def SmRow (w : World) (S : Nat → Prop) (oa : Option Addr) (ss : List Sm) : Prop := ∃ vs, RowC w S 7 oa ss.length vs ∧ ∀ j x, ss[j]? = some x → SmV w S x (vs j)
/-- declarations -/
def dcL (d : Dc) : List Value := [str d.nm, .int .i64 d.wd, .int .i64 d.a]
def DcRow (w : World) (S : Nat → Prop) (oa : Option Addr) (ds : List Dc) : Prop := RowC w S 3 oa ds.length (fun j => dcL (ds.getD j dc0))
/-- threads -/
def ThV (w : World) (S : Nat → Prop) (t : Th) (l : List Value) : Prop := ∃ ol cl ob cb, l = [str t.nm, .slice ol t.locals.length cl, .slice ob t.body.length cb, .int .i64 t.a] ∧ DcRow w S ol t.locals ∧ SmRow w S ob t.body
def ThRow (w : World) (S : Nat → Prop) (oa : Option Addr) (ts : List Th) : Prop := ∃ vs, RowC w S 4 oa ts.length vs ∧ ∀ j x, ts[j]? = some x → ThV w S x (vs j)
/-- a program's cells -/
def PgV (w : World) (S : Nat → Prop) (p : Pg) (l : List Value) : Prop := ∃ os cs ol cl ot ct, l = [.slice os p.shared.length cs, .slice ol p.locks.length cl, .slice ot p.threads.length ct] ∧ DcRow w S os p.shared ∧ DcRow w S ol p.locks ∧ ThRow w S ot p.threads
end Sx


/- The engine, twentieth part: trees whose numbers are of their kinds; how great they are; arguments that are trees, opened. -/
namespace Sx
open Go Go.RowKit
/-! ## numbers are of their kinds -/
def i64 (x : Int) : Prop := -9223372036854775808 ≤ x ∧ x ≤ 9223372036854775807
def u8 (x : Int) : Prop := 0 ≤ x ∧ x ≤ 255
inductive OkE : Ex → Prop
  | mk {k op wd : Int} {nm : List UInt8} {kids : List Ex} {a : Int} (h1 : u8 k) (h2 : u8 op) (h3 : i64 wd) (h4 : i64 a) (hn : kids.length ≤ 1099511627776) (hk : ∀ (j : Nat) x, kids[j]? = some x → OkE x) : OkE (.mk k op wd nm kids a)
theorem OkE.wd {e : Ex} (h : OkE e) : i64 e.wd := by cases h; assumption
theorem OkE.kid {e x : Ex} {j : Nat} (h : OkE e) (hj : e.kids[j]? = some x) : OkE x := by cases h with | mk h1 h2 h3 h4 hn hk => exact hk j x hj
def OkEs (es : List Ex) : Prop := es.length ≤ 1099511627776 ∧ ∀ (j : Nat) x, es[j]? = some x → OkE x
inductive OkS : Sm → Prop
  | mk {k : Int} {nm other : List UInt8} {e : List Ex} {body els : List Sm} {a : Int} (h1 : u8 k) (h2 : i64 a) (he : OkEs e) (hnb : body.length ≤ 1099511627776) (hb : ∀ (j : Nat) x, body[j]? = some x → OkS x) (hnl : els.length ≤ 1099511627776) (hl : ∀ (j : Nat) x, els[j]? = some x → OkS x) : OkS (.mk k nm other e body els a)
/-! ## how great a tree is -/
mutual
def szE : Ex → Nat
  | .mk k op wd nm kids a => nm.length + szEs kids + 1
termination_by structural e => e
def szEs : List Ex → Nat
  | [] => 0
  | e :: r => szE e + szEs r
termination_by structural l => l
end
mutual
def szS : Sm → Nat
  | .mk k nm other e body els a => nm.length + other.length + szEs e + szSs body + szSs els + 1
termination_by structural e => e
def szSs : List Sm → Nat
  | [] => 0
  | e :: r => szS e + szSs r
termination_by structural l => l
end
def szDs : List Dc → Nat
  | [] => 0
  | d :: r => d.nm.length + 1 + szDs r
def szTs : List Th → Nat
  | [] => 0
  | t :: r => t.nm.length + szDs t.locals + szSs t.body + 1 + szTs r
def szP (p : Pg) : Nat := szDs p.shared + szDs p.locks + szTs p.threads

structure TyIds where
  k1 : TypeId
  op : TypeId
  wd : TypeId
  str : TypeId
  es : TypeId
  e : TypeId
  int : TypeId
  k2 : TypeId
  ss : TypeId
  s : TypeId
  ds : TypeId
  d : TypeId
  ts : TypeId
  t : TypeId
  pg : TypeId
section
variable {H : Type} {enc : TypeId × Value → H} {P : Program} {w : World}
variable {I : TyIds}
end
end Sx


/- The engine, sixteenth part: arrays that are values; arrays in memory; the neg of a number. -/
namespace Sx
open Go Go.RowKit
section
variable {w0 w w' : World} {M : List Nat} {hs : List Res}
variable {P : Program} {n : Fr} {L : List Oper} {Q : Exit → Act → World → Prop} {kn : Kn} {N : Act → World → Prop}
variable {d ty : Nat} {pos : String} {aft : Array Edge} {g : Option (Nat × Bool)}

theorem y_neg {T : Nat} {x : Operand} {k : IntKind} {p r : Int} (hx : evO kn x = some (.int k p)) (hr : k.wrap (0 - p) = r) : Y P n kn w ⟨some d, .unOp .neg T x, ty, pos, aft, g⟩ (.int k r) := fun a ha => by
  subst hr
  simp only [execOp, ha.ev hx]
  simp [Op.unary, Op.intArith, go_sem]
theorem run_part1 {T off : Nat} {cs : List Value} {v : Value} (ha : ∀ w, (Go.isAgg T).run P w = .ok false w) (hv : nth cs off = some v) : (part T cs.toArray off).run P w = .ok v w := by
  rw [nth_eq] at hv
  unfold part
  simp [ha, hv]
theorem run_partA {T off sz : Nat} {cs vs : List Value} (ha : ∀ w, (Go.isAgg T).run P w = .ok true w) (hs : ∀ w, (Go.sizeOf T).run P w = .ok sz w) (hv : takeN sz (dropN cs off) = some vs) : (part T cs.toArray off).run P w = .ok (.agg vs.toArray) w := by
  obtain ⟨h1, h2⟩ := takeN_spec hv
  rw [dropN_eq] at h1
  unfold part
  simp [ha, hs, h1]
/-- a field of a struct that is a value -/
theorem y_fld {T i off : Nat} {x : Operand} {cs : List Value} {fs : Array Field} {f : Field} {v : Value} (hx : evO kn x = some (.agg cs.toArray)) (ht : P.underlying T = some (.struct fs)) (hf : nth fs.toList i = some f) (ho : f.offset = off)
    (ha : ∀ w, (Go.isAgg f.type).run P w = .ok false w) (hv : nth cs off = some v) : Y P n kn w ⟨some d, .field T x i, ty, pos, aft, g⟩ v := fun a hk => by
  subst ho
  rw [nth_eq] at hf
  have hf' : fs[i]? = some f := by simpa using hf
  simp only [execOp, hk.ev hx]
  simp [Instr.field, run_underlying ht, hf', asAgg, run_part1 ha hv]
/-- an element of an array that is a value -/
theorem y_ixa {T E i sz len : Nat} {x ix : Operand} {ik : IntKind} {ii : Int} {cs vs : List Value} (hx : evO kn x = some (.agg cs.toArray)) (hix : evO kn ix = some (.int ik ii)) (ht : P.underlying T = some (.array len E)) (hs : ∀ w, (Go.sizeOf E).run P w = .ok sz w)
    (hi : ii = (i : Int)) (hlt : Nat.blt i len = true) (ha : ∀ w, (Go.isAgg E).run P w = .ok true w) (hv : takeN sz (dropN cs (i * sz)) = some vs) : Y P n kn w ⟨some d, .index T x ix, ty, pos, aft, g⟩ (.agg vs.toArray) := fun a hk => by
  subst hi
  have h2 : (i : Int) < (len : Int) := by have : i < len := by simpa [Nat.blt_eq] using hlt
                                          omega
  simp only [execOp, hk.ev hx, hk.ev hix]
  simp [Instr.index, asIntOf, run_underlying ht, hs, h2, run_partA ha hs hv]
  intro; omega
/-- a[i:] of an array in memory -/
theorem y_sla {T E i sz len b off : Nat} {x lo : Operand} {ik : IntKind} {ii : Int} (hx : evO kn x = some (.pointer (some ⟨b, off, none⟩))) (hlo : evO kn lo = some (.int ik ii)) (ht : P.underlying T = some (.array len E))
    (hs : ∀ w, (Go.sizeOf E).run P w = .ok sz w) (hi : ii = (i : Int)) (hlt : i < len) : Y P n kn w ⟨some d, .slice T x (some lo) none none, ty, pos, aft, g⟩ (.slice (some ⟨b, off + i * sz, none⟩) (len - i) (len - i)) := fun a hk => by
  subst hi
  have h1 : i ≤ len := by omega
  have h2 : ¬ len = i := by omega
  simp only [execOp, Option.map_some, Option.map_none, hk.ev hx, hk.ev hlo]
  simp [Instr.sliceAt, Instr.sliceBounds, Instr.sliceBound, asIntOf, run_underlying ht, Instr.sureAddr, h1, h2, hs, addr_add]
/-- a store into a block that is known, at a place that is reckoned -/
theorem e_sta (st : St w0 M hs w) (i : Nat) {x y : Operand} {T b off E : Nat} {l l' : List Value} {v : Value} (hw : gd L kn g = some true) (hx : evO kn x = some (.pointer (some ⟨b, off, none⟩)))
    (hy : evO kn y = some v) (h1 : v.oneCell' = true) (hsz : ∀ w, (Go.sizeOf T).run P w = .ok 1 w)
    (hi : nth hs i = some (.blk b (.cells l.toArray E (0, 0)))) (hlt : off < l.length) (hl : l.set off v = l') (hm : b ∈ M ∨ w0.heap.size ≤ b)
    (next : ∀ w', St w0 M (setNth hs i (.blk b (.cells l'.toArray E (0, 0)))) w' → vN n N kn w') : vS P n L Q (⟨none, .store T x y, ty, pos, aft, g⟩) N kn w := by
  refine e_st st i hw hx hy h1 hsz hi (by simpa [Nat.blt_eq] using hlt) hm (fun w' st' => next w' ?_)
  rw [setNth_eq l off v, hl] at st'
  exact st'
end
end Sx


/- Short names for the engine's most frequent steps: what is 'rfl' at every use is filled in. -/
namespace Sx
open Go Go.RowKit

theorem St.dr {w0 : World} {M : List Nat} {hs hs' : List Res} {w : World} (st : St w0 M hs w) (h : hs'.Sublist hs := by repeat (first | exact sl0 | apply sl1 | apply sl2)) : St w0 M hs' w := st.drop h

section
variable {P : Program} {n : Fr} {L : List Oper} {Q : Exit → Act → World → Prop} {kn : Kn} {w w0 : World} {M : List Nat} {hs : List Res} {rest : List Oper}
variable {d ty : Nat} {pos : String} {aft : Array Edge} {g : Option (Nat × Bool)} {N : Act → World → Prop}

theorem ym {x : Operand} {v : Value} (next : vcL P n L Q rest (put (some d) v kn) w) (hw : gd L kn g = some true := by exact rfl) (hd : okDst n (some d) = true := by exact rfl) (hx : evO kn x = some v := by exact rfl) : vcL P n L Q (⟨some d, .move x, ty, pos, aft, g⟩ :: rest) kn w := vc_y hw hd (y_mv hx) next
theorem ya {x : Operand} {v : Value} (next : vcL P n L Q rest (put (some d) v kn) w) (hw : gd L kn g = some true := by exact rfl) (hd : okDst n (some d) = true := by exact rfl) (hx : evO kn x = some v := by exact rfl) : vcL P n L Q (⟨some d, .assign x, ty, pos, aft, g⟩ :: rest) kn w := vc_y hw hd (y_as hx) next
theorem ypt {c x y : Operand} {v : Value} (next : vcL P n L Q rest (put (some d) v kn) w) (hw : gd L kn g = some true := by exact rfl) (hd : okDst n (some d) = true := by exact rfl) (hc : evO kn c = some (.bool true) := by exact rfl) (hx : evO kn x = some v := by exact rfl) : vcL P n L Q (⟨some d, .pick c x y, ty, pos, aft, g⟩ :: rest) kn w := vc_y hw hd (y_pickt hc hx) next
theorem ypf {c x y : Operand} {v : Value} (next : vcL P n L Q rest (put (some d) v kn) w) (hw : gd L kn g = some true := by exact rfl) (hd : okDst n (some d) = true := by exact rfl) (hc : evO kn c = some (.bool false) := by exact rfl) (hx : evO kn y = some v := by exact rfl) : vcL P n L Q (⟨some d, .pick c x y, ty, pos, aft, g⟩ :: rest) kn w := vc_y hw hd (y_pickf hc hx) next
theorem ynk {x : Operand} {p : Addr} (next : vcL P n L Q rest (put (some d) (.pointer (some p)) kn) w) (hw : gd L kn g = some true := by exact rfl) (hd : okDst n (some d) = true := by exact rfl) (hx : evO kn x = some (.pointer (some p)) := by exact rfl) : vcL P n L Q (⟨some d, .nilCheck x, ty, pos, aft, g⟩ :: rest) kn w := vc_y hw hd (y_nck hx) next
theorem yfz (k : Nat) {x : Operand} {T i b s : Nat} {fs : Array Field} {f : Field} {F : Nat} (ht : P.underlying T = some (.struct fs)) (hs : ∀ w, (Go.sizeOf F).run P w = .ok s w)
    (next : vcL P n L Q rest (put (some d) (.pointer (some ⟨b, k, none⟩)) kn) w) (hw : gd L kn g = some true := by exact rfl) (hd : okDst n (some d) = true := by exact rfl) (hx : evO kn x = some (.pointer (some ⟨b, 0, none⟩)) := by exact rfl)
    (hf : nth fs.toList i = some f := by exact rfl) (hF : f.type = F := by exact rfl) (hk : f.offset = k := by exact rfl) (h0 : Nat.blt 0 s = true := by exact rfl) : vcL P n L Q (⟨some d, .fieldAddr T x i, ty, pos, aft, g⟩ :: rest) kn w := vc_y hw hd (y_faz hx ht hf hk (fun w => by rw [hF]; exact hs w) h0) next
theorem yl (st : St w0 M hs w) (i : Nat) {x : Operand} {T b off E : Nat} {l : List Value} {fz : Nat × Nat} {v : Value} (ha : ∀ w, (Go.isAgg T).run P w = .ok false w) (next : vcL P n L Q rest (put (some d) v kn) w)
    (hw : gd L kn g = some true := by exact rfl) (hd : okDst n (some d) = true := by exact rfl) (hx : evO kn x = some (.pointer (some ⟨b, off, none⟩)) := by exact rfl) (hi : nth hs i = some (.blk b (.cells l.toArray E fz)) := by exact rfl) (hv : nth l off = some v := by exact rfl) :
    vcL P n L Q (⟨some d, .load T x, ty, pos, aft, g⟩ :: rest) kn w := vc_y hw hd (y_ld st i hx ha hi hv) next
theorem yla (st : St w0 M hs w) (i : Nat) (vs : List Value) {x : Operand} {T b off E sz : Nat} {l : List Value} {fz : Nat × Nat} (ha : ∀ w, (Go.isAgg T).run P w = .ok true w) (hsz : ∀ w, (Go.sizeOf T).run P w = .ok sz w) (next : vcL P n L Q rest (put (some d) (.agg vs.toArray) kn) w)
    (hw : gd L kn g = some true := by exact rfl) (hd : okDst n (some d) = true := by exact rfl) (hx : evO kn x = some (.pointer (some ⟨b, off, none⟩)) := by exact rfl) (hi : nth hs i = some (.blk b (.cells l.toArray E fz)) := by exact rfl) (hv : takeN sz (dropN l off) = some vs := by exact rfl) :
    vcL P n L Q (⟨some d, .load T x, ty, pos, aft, g⟩ :: rest) kn w := vc_y hw hd (y_lda st i hx ha hsz hi hv) next
theorem vy {o : Oper} {v : Value} (y : Y P n kn w o v) (next : vcL P n L Q rest (put o.dst v kn) w) (hw : gd L kn o.guard = some true := by exact rfl) (hd : okDst n o.dst = true := by exact rfl) : vcL P n L Q (o :: rest) kn w := vc_y hw hd y next
theorem vsk {o : Oper} (next : vcL P n L Q rest (put o.dst undef kn) w) (hw : gd L kn o.guard = some false := by exact rfl) (hd : okDst n o.dst = true := by exact rfl) : vcL P n L Q (o :: rest) kn w := vc_e (e_skip hw hd next)
theorem vmb {x : Operand} {b : Bool} (h1 : b = true → vcL P n L Q rest ((d, .bool true) :: kn) w) (h2 : b = false → vcL P n L Q rest ((d, .bool false) :: kn) w) (hw : gd L kn g = some true := by exact rfl) (hd : okDst n (some d) = true := by exact rfl) (hx : evO kn x = some (.bool b) := by exact rfl) :
    vcL P n L Q (⟨some d, .move x, ty, pos, aft, g⟩ :: rest) kn w := vc_e (e_mvb hw hd hx h1 h2)
theorem est (st : St w0 M hs w) (i : Nat) {x y : Operand} {T b off E : Nat} {l : List Value} {v : Value} (hsz : ∀ w, (Go.sizeOf T).run P w = .ok 1 w) (next : ∀ w', St w0 M (setNth hs i (.blk b (.cells (setNth l off v).toArray E (0, 0)))) w' → vN n N kn w')
    (hw : gd L kn g = some true := by exact rfl) (hx : evO kn x = some (.pointer (some ⟨b, off, none⟩)) := by exact rfl) (hy : evO kn y = some v := by exact rfl) (h1 : v.oneCell' = true := by exact rfl) (hi : nth hs i = some (.blk b (.cells l.toArray E (0, 0))) := by exact rfl)
    (hlt : Nat.blt off l.length = true := by exact rfl) (hm : b ∈ M ∨ w0.heap.size ≤ b := by first | (right; assumption) | (left; simp)) : vS P n L Q (⟨none, .store T x y, ty, pos, aft, g⟩) N kn w := e_st st i hw hx hy h1 hsz hi hlt hm next
theorem ests (st : St w0 M hs w) (i : Nat) (vs : List Value) {x y : Operand} {T b off E : Nat} {l : List Value} {v : Value} (hsz : ∀ w, (Go.sizeOf T).run P w = .ok vs.length w) (next : ∀ w', St w0 M (setNth hs i (.blk b (.cells (wr l off vs).toArray E (0, 0)))) w' → vN n N kn w')
    (hw : gd L kn g = some true := by exact rfl) (hx : evO kn x = some (.pointer (some ⟨b, off, none⟩)) := by exact rfl) (hy : evO kn y = some v := by exact rfl) (hv : v.cells.toList = vs := by exact rfl) (h1 : allOne vs = true := by exact rfl) (hi : nth hs i = some (.blk b (.cells l.toArray E (0, 0))) := by exact rfl)
    (hlt : Nat.ble (off + vs.length) l.length = true := by exact rfl) (hm : b ∈ M ∨ w0.heap.size ≤ b := by first | (right; assumption) | (left; simp)) : vS P n L Q (⟨none, .store T x y, ty, pos, aft, g⟩) N kn w := e_sts st i hw hx hy hv h1 hsz hi hlt hm next

variable {S : World → Prop} {r : List (Nat × Bool)} {rd : Pl}
theorem pm (hS : S w) {i : Nat} {x : Operand} {v : Value} (next : vP P n L Q S r (put (some d) v kn) w) (hi : nth L i = some ⟨some d, .move x, ty, pos, aft, g⟩ := by exact rfl) (hw : gd L kn g = some true := by exact rfl) (hd : okDst n (some d) = true := by exact rfl)
    (hx : evO kn x = some v := by exact rfl) : vP P n L Q S ((i, true) :: r) kn w := vp_take hi hw hd hS (fun _ _ => y_mv hx) next
theorem pnk (hS : S w) {i : Nat} {x : Operand} {p : Addr} (next : vP P n L Q S r (put (some d) (.pointer (some p)) kn) w) (hi : nth L i = some ⟨some d, .nilCheck x, ty, pos, aft, g⟩ := by exact rfl) (hw : gd L kn g = some true := by exact rfl) (hd : okDst n (some d) = true := by exact rfl)
    (hx : evO kn x = some (.pointer (some p)) := by exact rfl) : vP P n L Q S ((i, true) :: r) kn w := vp_take hi hw hd hS (fun _ _ => y_nck hx) next
theorem pld (hS : S w) (j : Nat) {i : Nat} {x : Operand} {T b off E : Nat} {l : List Value} {fz : Nat × Nat} {v : Value} (ha : ∀ w, (Go.isAgg T).run P w = .ok false w) (next : vP P n L Q S r (put (some d) v kn) w)
    (hst : ∀ w', S w' → St w0 M hs w' := by exact fun _ h => h) (hi : nth L i = some ⟨some d, .load T x, ty, pos, aft, g⟩ := by exact rfl) (hw : gd L kn g = some true := by exact rfl) (hd : okDst n (some d) = true := by exact rfl)
    (hx : evO kn x = some (.pointer (some ⟨b, off, none⟩)) := by exact rfl) (hb : nth hs j = some (.blk b (.cells l.toArray E fz)) := by exact rfl) (hv : nth l off = some v := by exact rfl) : vP P n L Q S ((i, true) :: r) kn w := vp_take hi hw hd hS (fun w st => y_ld (hst w st) j hx ha hb hv) next
theorem pfz (hS : S w) (k : Nat) {i : Nat} {x : Operand} {T q b s : Nat} {fs : Array Field} {f : Field} {F : Nat} (ht : P.underlying T = some (.struct fs)) (hs : ∀ w, (Go.sizeOf F).run P w = .ok s w) (next : vP P n L Q S r (put (some d) (.pointer (some ⟨b, k, none⟩)) kn) w)
    (hi : nth L i = some ⟨some d, .fieldAddr T x q, ty, pos, aft, g⟩ := by exact rfl) (hw : gd L kn g = some true := by exact rfl) (hd : okDst n (some d) = true := by exact rfl) (hx : evO kn x = some (.pointer (some ⟨b, 0, none⟩)) := by exact rfl)
    (hf : nth fs.toList q = some f := by exact rfl) (hF : f.type = F := by exact rfl) (hk : f.offset = k := by exact rfl) (h0 : Nat.blt 0 s = true := by exact rfl) : vP P n L Q S ((i, true) :: r) kn w := vp_take hi hw hd hS (fun _ _ => y_faz hx ht hf hk (fun w => by rw [hF]; exact hs w) h0) next
theorem pf0 (hS : S w) {i : Nat} {x : Operand} {T q b off s : Nat} {fs : Array Field} {f : Field} {F : Nat} (ht : P.underlying T = some (.struct fs)) (hs : ∀ w, (Go.sizeOf F).run P w = .ok s w) (next : vP P n L Q S r (put (some d) (.pointer (some ⟨b, off, none⟩)) kn) w)
    (hi : nth L i = some ⟨some d, .fieldAddr T x q, ty, pos, aft, g⟩ := by exact rfl) (hw : gd L kn g = some true := by exact rfl) (hd : okDst n (some d) = true := by exact rfl) (hx : evO kn x = some (.pointer (some ⟨b, off, none⟩)) := by exact rfl)
    (hf : nth fs.toList q = some f := by exact rfl) (hF : f.type = F := by exact rfl) (hk : f.offset = 0 := by exact rfl) (h0 : Nat.blt 0 s = true := by exact rfl) : vP P n L Q S ((i, true) :: r) kn w := vp_take hi hw hd hS (fun _ _ => y_fa0 hx ht hf hk (fun w => by rw [hF]; exact hs w) h0) next
theorem dm (hS : S w) {i : Nat} {x : Operand} {v : Value} (next : vD P n L Q S rd (put (some d) v kn) w) (hi : nth L i = some ⟨some d, .move x, ty, pos, aft, g⟩ := by exact rfl) (hw : gd L kn g = some true := by exact rfl) (hd : okDst n (some d) = true := by exact rfl)
    (hx : evO kn x = some v := by exact rfl) : vD P n L Q S (.take i rd) kn w := vd_take hi hw hd hS (fun _ _ => y_mv hx) next
theorem dld (hS : S w) (j : Nat) {i : Nat} {x : Operand} {T b off E : Nat} {l : List Value} {fz : Nat × Nat} {v : Value} (ha : ∀ w, (Go.isAgg T).run P w = .ok false w) (next : vD P n L Q S rd (put (some d) v kn) w)
    (hst : ∀ w', S w' → St w0 M hs w' := by exact fun _ h => h) (hi : nth L i = some ⟨some d, .load T x, ty, pos, aft, g⟩ := by exact rfl) (hw : gd L kn g = some true := by exact rfl) (hd : okDst n (some d) = true := by exact rfl)
    (hx : evO kn x = some (.pointer (some ⟨b, off, none⟩)) := by exact rfl) (hb : nth hs j = some (.blk b (.cells l.toArray E fz)) := by exact rfl) (hv : nth l off = some v := by exact rfl) : vD P n L Q S (.take i rd) kn w := vd_take hi hw hd hS (fun w st => y_ld (hst w st) j hx ha hb hv) next
theorem dfz (hS : S w) (k : Nat) {i : Nat} {x : Operand} {T q b s : Nat} {fs : Array Field} {f : Field} {F : Nat} (ht : P.underlying T = some (.struct fs)) (hs : ∀ w, (Go.sizeOf F).run P w = .ok s w) (next : vD P n L Q S rd (put (some d) (.pointer (some ⟨b, k, none⟩)) kn) w)
    (hi : nth L i = some ⟨some d, .fieldAddr T x q, ty, pos, aft, g⟩ := by exact rfl) (hw : gd L kn g = some true := by exact rfl) (hd : okDst n (some d) = true := by exact rfl) (hx : evO kn x = some (.pointer (some ⟨b, 0, none⟩)) := by exact rfl)
    (hf : nth fs.toList q = some f := by exact rfl) (hF : f.type = F := by exact rfl) (hk : f.offset = k := by exact rfl) (h0 : Nat.blt 0 s = true := by exact rfl) : vD P n L Q S (.take i rd) kn w := vd_take hi hw hd hS (fun _ _ => y_faz hx ht hf hk (fun w => by rw [hF]; exact hs w) h0) next
theorem df0 (hS : S w) {i : Nat} {x : Operand} {T q b off s : Nat} {fs : Array Field} {f : Field} {F : Nat} (ht : P.underlying T = some (.struct fs)) (hs : ∀ w, (Go.sizeOf F).run P w = .ok s w) (next : vD P n L Q S rd (put (some d) (.pointer (some ⟨b, off, none⟩)) kn) w)
    (hi : nth L i = some ⟨some d, .fieldAddr T x q, ty, pos, aft, g⟩ := by exact rfl) (hw : gd L kn g = some true := by exact rfl) (hd : okDst n (some d) = true := by exact rfl) (hx : evO kn x = some (.pointer (some ⟨b, off, none⟩)) := by exact rfl)
    (hf : nth fs.toList q = some f := by exact rfl) (hF : f.type = F := by exact rfl) (hk : f.offset = 0 := by exact rfl) (h0 : Nat.blt 0 s = true := by exact rfl) : vD P n L Q S (.take i rd) kn w := vd_take hi hw hd hS (fun _ _ => y_fa0 hx ht hf hk (fun w => by rw [hF]; exact hs w) h0) next
theorem vk1 {c : Code} (a0 : Nat) {v0 : Value} (h : vcC P n c Q [(a0, v0)] w) (h0 : find kn a0 = some v0 := by exact rfl) : vcC P n c Q kn w := vc_keep [(a0, v0)] ⟨h0, trivial⟩ h
theorem vk2 {c : Code} (a0 a1 : Nat) {v0 v1 : Value} (h : vcC P n c Q [(a0, v0), (a1, v1)] w) (h0 : find kn a0 = some v0 := by exact rfl) (h1 : find kn a1 = some v1 := by exact rfl) : vcC P n c Q kn w := vc_keep [(a0, v0), (a1, v1)] ⟨h0, h1, trivial⟩ h
theorem vk3 {c : Code} (a0 a1 a2 : Nat) {v0 v1 v2 : Value} (h : vcC P n c Q [(a0, v0), (a1, v1), (a2, v2)] w) (h0 : find kn a0 = some v0 := by exact rfl) (h1 : find kn a1 = some v1 := by exact rfl) (h2 : find kn a2 = some v2 := by exact rfl) : vcC P n c Q kn w := vc_keep [(a0, v0), (a1, v1), (a2, v2)] ⟨h0, h1, h2, trivial⟩ h
theorem vk4 {c : Code} (a0 a1 a2 a3 : Nat) {v0 v1 v2 v3 : Value} (h : vcC P n c Q [(a0, v0), (a1, v1), (a2, v2), (a3, v3)] w) (h0 : find kn a0 = some v0 := by exact rfl) (h1 : find kn a1 = some v1 := by exact rfl) (h2 : find kn a2 = some v2 := by exact rfl) (h3 : find kn a3 = some v3 := by exact rfl) : vcC P n c Q kn w := vc_keep [(a0, v0), (a1, v1), (a2, v2), (a3, v3)] ⟨h0, h1, h2, h3, trivial⟩ h
theorem vk5 {c : Code} (a0 a1 a2 a3 a4 : Nat) {v0 v1 v2 v3 v4 : Value} (h : vcC P n c Q [(a0, v0), (a1, v1), (a2, v2), (a3, v3), (a4, v4)] w) (h0 : find kn a0 = some v0 := by exact rfl) (h1 : find kn a1 = some v1 := by exact rfl) (h2 : find kn a2 = some v2 := by exact rfl) (h3 : find kn a3 = some v3 := by exact rfl) (h4 : find kn a4 = some v4 := by exact rfl) : vcC P n c Q kn w := vc_keep [(a0, v0), (a1, v1), (a2, v2), (a3, v3), (a4, v4)] ⟨h0, h1, h2, h3, h4, trivial⟩ h
theorem vk6 {c : Code} (a0 a1 a2 a3 a4 a5 : Nat) {v0 v1 v2 v3 v4 v5 : Value} (h : vcC P n c Q [(a0, v0), (a1, v1), (a2, v2), (a3, v3), (a4, v4), (a5, v5)] w) (h0 : find kn a0 = some v0 := by exact rfl) (h1 : find kn a1 = some v1 := by exact rfl) (h2 : find kn a2 = some v2 := by exact rfl) (h3 : find kn a3 = some v3 := by exact rfl) (h4 : find kn a4 = some v4 := by exact rfl) (h5 : find kn a5 = some v5 := by exact rfl) : vcC P n c Q kn w := vc_keep [(a0, v0), (a1, v1), (a2, v2), (a3, v3), (a4, v4), (a5, v5)] ⟨h0, h1, h2, h3, h4, h5, trivial⟩ h
theorem vk7 {c : Code} (a0 a1 a2 a3 a4 a5 a6 : Nat) {v0 v1 v2 v3 v4 v5 v6 : Value} (h : vcC P n c Q [(a0, v0), (a1, v1), (a2, v2), (a3, v3), (a4, v4), (a5, v5), (a6, v6)] w) (h0 : find kn a0 = some v0 := by exact rfl) (h1 : find kn a1 = some v1 := by exact rfl) (h2 : find kn a2 = some v2 := by exact rfl) (h3 : find kn a3 = some v3 := by exact rfl) (h4 : find kn a4 = some v4 := by exact rfl) (h5 : find kn a5 = some v5 := by exact rfl) (h6 : find kn a6 = some v6 := by exact rfl) : vcC P n c Q kn w := vc_keep [(a0, v0), (a1, v1), (a2, v2), (a3, v3), (a4, v4), (a5, v5), (a6, v6)] ⟨h0, h1, h2, h3, h4, h5, h6, trivial⟩ h
theorem vk8 {c : Code} (a0 a1 a2 a3 a4 a5 a6 a7 : Nat) {v0 v1 v2 v3 v4 v5 v6 v7 : Value} (h : vcC P n c Q [(a0, v0), (a1, v1), (a2, v2), (a3, v3), (a4, v4), (a5, v5), (a6, v6), (a7, v7)] w) (h0 : find kn a0 = some v0 := by exact rfl) (h1 : find kn a1 = some v1 := by exact rfl) (h2 : find kn a2 = some v2 := by exact rfl) (h3 : find kn a3 = some v3 := by exact rfl) (h4 : find kn a4 = some v4 := by exact rfl) (h5 : find kn a5 = some v5 := by exact rfl) (h6 : find kn a6 = some v6 := by exact rfl) (h7 : find kn a7 = some v7 := by exact rfl) : vcC P n c Q kn w := vc_keep [(a0, v0), (a1, v1), (a2, v2), (a3, v3), (a4, v4), (a5, v5), (a6, v6), (a7, v7)] ⟨h0, h1, h2, h3, h4, h5, h6, h7, trivial⟩ h
theorem vk9 {c : Code} (a0 a1 a2 a3 a4 a5 a6 a7 a8 : Nat) {v0 v1 v2 v3 v4 v5 v6 v7 v8 : Value} (h : vcC P n c Q [(a0, v0), (a1, v1), (a2, v2), (a3, v3), (a4, v4), (a5, v5), (a6, v6), (a7, v7), (a8, v8)] w) (h0 : find kn a0 = some v0 := by exact rfl) (h1 : find kn a1 = some v1 := by exact rfl) (h2 : find kn a2 = some v2 := by exact rfl) (h3 : find kn a3 = some v3 := by exact rfl) (h4 : find kn a4 = some v4 := by exact rfl) (h5 : find kn a5 = some v5 := by exact rfl) (h6 : find kn a6 = some v6 := by exact rfl) (h7 : find kn a7 = some v7 := by exact rfl) (h8 : find kn a8 = some v8 := by exact rfl) : vcC P n c Q kn w := vc_keep [(a0, v0), (a1, v1), (a2, v2), (a3, v3), (a4, v4), (a5, v5), (a6, v6), (a7, v7), (a8, v8)] ⟨h0, h1, h2, h3, h4, h5, h6, h7, h8, trivial⟩ h
theorem vk10 {c : Code} (a0 a1 a2 a3 a4 a5 a6 a7 a8 a9 : Nat) {v0 v1 v2 v3 v4 v5 v6 v7 v8 v9 : Value} (h : vcC P n c Q [(a0, v0), (a1, v1), (a2, v2), (a3, v3), (a4, v4), (a5, v5), (a6, v6), (a7, v7), (a8, v8), (a9, v9)] w) (h0 : find kn a0 = some v0 := by exact rfl) (h1 : find kn a1 = some v1 := by exact rfl) (h2 : find kn a2 = some v2 := by exact rfl) (h3 : find kn a3 = some v3 := by exact rfl) (h4 : find kn a4 = some v4 := by exact rfl) (h5 : find kn a5 = some v5 := by exact rfl) (h6 : find kn a6 = some v6 := by exact rfl) (h7 : find kn a7 = some v7 := by exact rfl) (h8 : find kn a8 = some v8 := by exact rfl) (h9 : find kn a9 = some v9 := by exact rfl) : vcC P n c Q kn w := vc_keep [(a0, v0), (a1, v1), (a2, v2), (a3, v3), (a4, v4), (a5, v5), (a6, v6), (a7, v7), (a8, v8), (a9, v9)] ⟨h0, h1, h2, h3, h4, h5, h6, h7, h8, h9, trivial⟩ h
/-! ### two steps in one -/
theorem sr {id : Nat} {L : List Oper} {y : Code} (h : vcL P n L (Exit.then (y.wp P Q) Q) L kn w) : vcC P n (.seq (.region id L.toArray false) y) Q kn w := vc_seq (vc_region h)
theorem et {c : Code} (h : vcC P n c Q kn w) : vcL P n L (Exit.then (c.wp P Q) Q) [] kn w := vc_end (vq_then h)
theorem kt {c : Code} (h : vcC P n c Q kn w) : vcC P n .skip (Exit.then (c.wp P Q) Q) kn w := vc_code_skip (vq_then h)
theorem vif {t : Nat} {x y : Code} {b : Bool} (h1 : b = true → vcC P n x Q ((t, .bool true) :: kn) w) (h2 : b = false → vcC P n y Q ((t, .bool false) :: kn) w) (hc : find kn t = some (.bool b) := by exact rfl) : vcC P n (.cond (.tmp t) x y) Q kn w := vc_ifs hc h1 h2
variable {s : Nat}
theorem km (hS : S w) {i : Nat} {x : Operand} {v : Value} (next : vK P n L Q s S false r (put (some d) v kn) w) (hi : nth L i = some ⟨some d, .move x, ty, pos, aft, g⟩ := by exact rfl) (hw : gd L kn g = some true := by exact rfl) (hd : okDst n (some d) = true := by exact rfl) (his : Nat.beq i s = false := by exact rfl)
    (hx : evO kn x = some v := by exact rfl) : vK P n L Q s S false ((i, true) :: r) kn w := vk_takeU hi hw hd his (fun _ => hS) (fun _ => y_mv hx) next
end
end Sx


/- The engine, eighteenth part: trees whose rows lie each in a block of its own. -/
namespace Sx
open Go Go.RowKit

def obk : Option Addr → List Nat | some a => [a.block] | none => []
theorem obk_own {oa : Option Addr} {n cap : Nat} : (Value.slice oa n cap).ownBlock.toList = obk oa := by cases oa <;> rfl
theorem owns_kept {w w' : World} {base E size n : Nat} {oa : Option Addr} {m cap : Nat} {xs : List Value} (h : w.ownsRow base E size (.slice oa m cap) n xs) (hk : ∀ b ∈ obk oa, w'.heap[b]? = w.heap[b]?) : w'.ownsRow base E size (.slice oa m cap) n xs := by
  refine ⟨h.1, h.2.imp id fun ⟨g, c, cur, e, hb, hc, hr⟩ => ⟨g, c, cur, e, hb, ?_, hr⟩⟩
  simp only [Value.slice.injEq] at e
  rw [hk g (by rw [e.1]; simp [obk])]; exact hc
theorem owns_lt {w : World} {base E size n : Nat} {oa : Option Addr} {m cap : Nat} {xs : List Value} (h : w.ownsRow base E size (.slice oa m cap) n xs) : ∀ b ∈ obk oa, base ≤ b ∧ b < w.heap.size := by
  intro b hb
  rw [← obk_own (n := m) (cap := cap)] at hb
  exact World.ownsRow.lt h b (by simpa using hb)
theorem owns_mono {w : World} {base base' E size n : Nat} {v : Value} {xs : List Value} (h : w.ownsRow base E size v n xs) (hb : ∀ b, v.ownBlock = some b → base' ≤ b) : w.ownsRow base' E size v n xs :=
  ⟨h.1, h.2.imp id fun ⟨g, c, cur, e, hg, hr⟩ => ⟨g, c, cur, e, hb g (by rw [e]; rfl), hr⟩⟩

section
variable (tE tS tD tT : Nat)
mutual
/-- an expression's cells, and the blocks that its kids lie in -/
def ExS (w : World) : Ex → List Value → List Nat → Prop
  | .mk k op wd nm kids a, l, S => ∃ oa cap xs S', l = [.int .u8 k, .int .u8 op, .int .i64 wd, str nm, .slice oa kids.length cap, .int .i64 a] ∧ w.ownsRow 0 tE 6 (.slice oa kids.length cap) kids.length xs ∧ S = obk oa ++ S' ∧ ExSs w kids xs S'
termination_by structural e => e
def ExSs (w : World) : List Ex → List Value → List Nat → Prop
  | [], xs, S => xs = [] ∧ S = []
  | e :: r, xs, S => ∃ v S1 xr Sr, xs = v ++ xr ∧ S = S1 ++ Sr ∧ ExS w e v S1 ∧ ExSs w r xr Sr
termination_by structural l => l
end
def ExR (w : World) (oa : Option Addr) (cap : Nat) (es : List Ex) (S : List Nat) : Prop := ∃ xs S', w.ownsRow 0 tE 6 (.slice oa es.length cap) es.length xs ∧ S = obk oa ++ S' ∧ ExSs tE w es xs S'
mutual
def SmS (w : World) : Sm → List Value → List Nat → Prop
  | .mk k nm other e body els a, l, S => ∃ oe ce ob cb ol cl Se xb Sb xl Sl, l = [.int .u8 k, str nm, str other, .slice oe e.length ce, .slice ob body.length cb, .slice ol els.length cl, .int .i64 a] ∧ ExR tE w oe ce e Se ∧
      w.ownsRow 0 tS 7 (.slice ob body.length cb) body.length xb ∧ SmSs w body xb Sb ∧ w.ownsRow 0 tS 7 (.slice ol els.length cl) els.length xl ∧ SmSs w els xl Sl ∧ S = Se ++ ((obk ob ++ Sb) ++ (obk ol ++ Sl))
termination_by structural s => s
def SmSs (w : World) : List Sm → List Value → List Nat → Prop
  | [], xs, S => xs = [] ∧ S = []
  | s :: r, xs, S => ∃ v S1 xr Sr, xs = v ++ xr ∧ S = S1 ++ Sr ∧ SmS w s v S1 ∧ SmSs w r xr Sr
termination_by structural l => l
end
def SmR (w : World) (oa : Option Addr) (cap : Nat) (ss : List Sm) (S : List Nat) : Prop := ∃ xs S', w.ownsRow 0 tS 7 (.slice oa ss.length cap) ss.length xs ∧ S = obk oa ++ S' ∧ SmSs tE tS w ss xs S'
def DcR (w : World) (oa : Option Addr) (cap : Nat) (ds : List Dc) (S : List Nat) : Prop := w.ownsRow 0 tD 3 (.slice oa ds.length cap) ds.length (ds.flatMap dcL) ∧ S = obk oa
def ThS (w : World) (t : Th) (l : List Value) (S : List Nat) : Prop := ∃ ol cl ob cb Sl Sb, l = [str t.nm, .slice ol t.locals.length cl, .slice ob t.body.length cb, .int .i64 t.a] ∧ DcR tD w ol cl t.locals Sl ∧ SmR tE tS w ob cb t.body Sb ∧ S = Sl ++ Sb
def ThSs (w : World) : List Th → List Value → List Nat → Prop
  | [], xs, S => xs = [] ∧ S = []
  | t :: r, xs, S => ∃ v S1 xr Sr, xs = v ++ xr ∧ S = S1 ++ Sr ∧ ThS tE tS tD w t v S1 ∧ ThSs w r xr Sr
def ThR (w : World) (oa : Option Addr) (cap : Nat) (ts : List Th) (S : List Nat) : Prop := ∃ xs S', w.ownsRow 0 tT 4 (.slice oa ts.length cap) ts.length xs ∧ S = obk oa ++ S' ∧ ThSs tE tS tD w ts xs S'
def PgS (w : World) (p : Pg) (l : List Value) (S : List Nat) : Prop := ∃ os cs ol cl ot ct Ss Sl St, l = [.slice os p.shared.length cs, .slice ol p.locks.length cl, .slice ot p.threads.length ct] ∧ DcR tD w os cs p.shared Ss ∧ DcR tD w ol cl p.locks Sl ∧ ThR tE tS tD tT w ot ct p.threads St ∧ S = Ss ++ (Sl ++ St)
end

section
variable {tE tS tD tT : Nat} {w w' : World}
theorem ExS_iff {e : Ex} {l : List Value} {S : List Nat} : ExS tE w e l S ↔ ∃ oa cap, l = [.int .u8 e.k, .int .u8 e.op, .int .i64 e.wd, str e.nm, .slice oa e.kids.length cap, .int .i64 e.a] ∧ ExR tE w oa cap e.kids S := by
  cases e with
  | mk k op wd nm kids a =>
    rw [ExS]
    constructor
    · rintro ⟨oa, cap, xs, S', h1, h2, h3, h4⟩
      exact ⟨oa, cap, h1, xs, S', h2, h3, h4⟩
    · rintro ⟨oa, cap, h1, xs, S', h2, h3, h4⟩
      exact ⟨oa, cap, xs, S', h1, h2, h3, h4⟩
theorem SmS_iff {s : Sm} {l : List Value} {S : List Nat} : SmS tE tS w s l S ↔ ∃ oe ce ob cb ol cl Se Sb Sl, l = [.int .u8 s.k, str s.nm, str s.other, .slice oe s.e.length ce, .slice ob s.body.length cb, .slice ol s.els.length cl, .int .i64 s.a] ∧
    ExR tE w oe ce s.e Se ∧ SmR tE tS w ob cb s.body Sb ∧ SmR tE tS w ol cl s.els Sl ∧ S = Se ++ (Sb ++ Sl) := by
  cases s with
  | mk k nm other e body els a =>
    rw [SmS]
    constructor
    · rintro ⟨oe, ce, ob, cb, ol, cl, Se, xb, Sb, xl, Sl, h1, h2, h3, h4, h5, h6, h7⟩
      exact ⟨oe, ce, ob, cb, ol, cl, Se, _, _, h1, h2, ⟨xb, Sb, h3, rfl, h4⟩, ⟨xl, Sl, h5, rfl, h6⟩, h7⟩
    · rintro ⟨oe, ce, ob, cb, ol, cl, Se, _, _, h1, h2, ⟨xb, Sb, h3, rfl, h4⟩, ⟨xl, Sl, h5, rfl, h6⟩, h7⟩
      exact ⟨oe, ce, ob, cb, ol, cl, Se, xb, Sb, xl, Sl, h1, h2, h3, h4, h5, h6, h7⟩
theorem ExS.len {e : Ex} {l : List Value} {S : List Nat} (h : ExS tE w e l S) : l.length = 6 := by obtain ⟨oa, cap, rfl, _⟩ := ExS_iff.1 h; rfl
theorem SmS.len {s : Sm} {l : List Value} {S : List Nat} (h : SmS tE tS w s l S) : l.length = 7 := by obtain ⟨oe, ce, ob, cb, ol, cl, Se, Sb, Sl, rfl, _⟩ := SmS_iff.1 h; rfl
theorem ThS.len {t : Th} {l : List Value} {S : List Nat} (h : ThS tE tS tD w t l S) : l.length = 4 := by obtain ⟨ol, cl, ob, cb, Sl, Sb, rfl, _⟩ := h; rfl
/-! ### what is apart stays -/
mutual
theorem ExS.kept : ∀ {e : Ex} {l : List Value} {S : List Nat}, ExS tE w e l S → (∀ b ∈ S, w'.heap[b]? = w.heap[b]?) → ExS tE w' e l S
  | .mk k op wd nm kids a, l, S, h, hk => by
    rw [ExS] at h ⊢
    obtain ⟨oa, cap, xs, S', h1, h2, rfl, h4⟩ := h
    exact ⟨oa, cap, xs, S', h1, owns_kept h2 (fun b hb => hk b (List.mem_append.2 (.inl hb))), rfl, ExSs.kept h4 (fun b hb => hk b (List.mem_append.2 (.inr hb)))⟩
termination_by structural e => e
theorem ExSs.kept : ∀ {es : List Ex} {xs : List Value} {S : List Nat}, ExSs tE w es xs S → (∀ b ∈ S, w'.heap[b]? = w.heap[b]?) → ExSs tE w' es xs S
  | [], xs, S, h, hk => by rw [ExSs] at h ⊢; exact h
  | e :: r, xs, S, h, hk => by
    rw [ExSs] at h ⊢
    obtain ⟨v, S1, xr, Sr, rfl, rfl, h1, h2⟩ := h
    exact ⟨v, S1, xr, Sr, rfl, rfl, ExS.kept h1 (fun b hb => hk b (List.mem_append.2 (.inl hb))), ExSs.kept h2 (fun b hb => hk b (List.mem_append.2 (.inr hb)))⟩
termination_by structural es => es
end
theorem ExR.kept {oa : Option Addr} {cap : Nat} {es : List Ex} {S : List Nat} (h : ExR tE w oa cap es S) (hk : ∀ b ∈ S, w'.heap[b]? = w.heap[b]?) : ExR tE w' oa cap es S := by
  obtain ⟨xs, S', h1, rfl, h3⟩ := h
  exact ⟨xs, S', owns_kept h1 (fun b hb => hk b (List.mem_append.2 (.inl hb))), rfl, ExSs.kept h3 (fun b hb => hk b (List.mem_append.2 (.inr hb)))⟩
mutual
theorem SmS.kept : ∀ {e : Sm} {l : List Value} {S : List Nat}, SmS tE tS w e l S → (∀ b ∈ S, w'.heap[b]? = w.heap[b]?) → SmS tE tS w' e l S
  | .mk k nm other e body els a, l, S, h, hk => by
    rw [SmS] at h ⊢
    obtain ⟨oe, ce, ob, cb, ol, cl, Se, xb, Sb, xl, Sl, h1, h2, h3, h4, h5, h6, rfl⟩ := h
    exact ⟨oe, ce, ob, cb, ol, cl, Se, xb, Sb, xl, Sl, h1, h2.kept (fun b hb => hk b (by simp [hb])), owns_kept h3 (fun b hb => hk b (by simp [hb])), SmSs.kept h4 (fun b hb => hk b (by simp [hb])),
      owns_kept h5 (fun b hb => hk b (by simp [hb])), SmSs.kept h6 (fun b hb => hk b (by simp [hb])), rfl⟩
termination_by structural e => e
theorem SmSs.kept : ∀ {es : List Sm} {xs : List Value} {S : List Nat}, SmSs tE tS w es xs S → (∀ b ∈ S, w'.heap[b]? = w.heap[b]?) → SmSs tE tS w' es xs S
  | [], xs, S, h, hk => by rw [SmSs] at h ⊢; exact h
  | e :: r, xs, S, h, hk => by
    rw [SmSs] at h ⊢
    obtain ⟨v, S1, xr, Sr, rfl, rfl, h1, h2⟩ := h
    exact ⟨v, S1, xr, Sr, rfl, rfl, SmS.kept h1 (fun b hb => hk b (List.mem_append.2 (.inl hb))), SmSs.kept h2 (fun b hb => hk b (List.mem_append.2 (.inr hb)))⟩
termination_by structural es => es
end
theorem SmR.kept {oa : Option Addr} {cap : Nat} {es : List Sm} {S : List Nat} (h : SmR tE tS w oa cap es S) (hk : ∀ b ∈ S, w'.heap[b]? = w.heap[b]?) : SmR tE tS w' oa cap es S := by
  obtain ⟨xs, S', h1, rfl, h3⟩ := h
  exact ⟨xs, S', owns_kept h1 (fun b hb => hk b (List.mem_append.2 (.inl hb))), rfl, SmSs.kept h3 (fun b hb => hk b (List.mem_append.2 (.inr hb)))⟩
theorem DcR.kept {oa : Option Addr} {cap : Nat} {es : List Dc} {S : List Nat} (h : DcR tD w oa cap es S) (hk : ∀ b ∈ S, w'.heap[b]? = w.heap[b]?) : DcR tD w' oa cap es S := by
  obtain ⟨h1, rfl⟩ := h
  exact ⟨owns_kept h1 hk, rfl⟩
theorem ThS.kept {t : Th} {l : List Value} {S : List Nat} (h : ThS tE tS tD w t l S) (hk : ∀ b ∈ S, w'.heap[b]? = w.heap[b]?) : ThS tE tS tD w' t l S := by
  obtain ⟨ol, cl, ob, cb, Sl, Sb, h1, h2, h3, rfl⟩ := h
  exact ⟨ol, cl, ob, cb, Sl, Sb, h1, h2.kept (fun b hb => hk b (List.mem_append.2 (.inl hb))), h3.kept (fun b hb => hk b (List.mem_append.2 (.inr hb))), rfl⟩
theorem ThSs.kept : ∀ {es : List Th} {xs : List Value} {S : List Nat}, ThSs tE tS tD w es xs S → (∀ b ∈ S, w'.heap[b]? = w.heap[b]?) → ThSs tE tS tD w' es xs S
  | [], xs, S, h, hk => by rw [ThSs] at h ⊢; exact h
  | e :: r, xs, S, h, hk => by
    rw [ThSs] at h ⊢
    obtain ⟨v, S1, xr, Sr, rfl, rfl, h1, h2⟩ := h
    exact ⟨v, S1, xr, Sr, rfl, rfl, h1.kept (fun b hb => hk b (List.mem_append.2 (.inl hb))), ThSs.kept h2 (fun b hb => hk b (List.mem_append.2 (.inr hb)))⟩
theorem ThR.kept {oa : Option Addr} {cap : Nat} {es : List Th} {S : List Nat} (h : ThR tE tS tD tT w oa cap es S) (hk : ∀ b ∈ S, w'.heap[b]? = w.heap[b]?) : ThR tE tS tD tT w' oa cap es S := by
  obtain ⟨xs, S', h1, rfl, h3⟩ := h
  exact ⟨xs, S', owns_kept h1 (fun b hb => hk b (List.mem_append.2 (.inl hb))), rfl, ThSs.kept h3 (fun b hb => hk b (List.mem_append.2 (.inr hb)))⟩
theorem PgS.kept {p : Pg} {l : List Value} {S : List Nat} (h : PgS tE tS tD tT w p l S) (hk : ∀ b ∈ S, w'.heap[b]? = w.heap[b]?) : PgS tE tS tD tT w' p l S := by
  obtain ⟨os, cs, ol, cl, ot, ct, Ss, Sl, St, h1, h2, h3, h4, rfl⟩ := h
  exact ⟨os, cs, ol, cl, ot, ct, Ss, Sl, St, h1, h2.kept (fun b hb => hk b (by simp [hb])), h3.kept (fun b hb => hk b (by simp [hb])), h4.kept (fun b hb => hk b (by simp [hb])), rfl⟩

/-! ### the blocks are there -/
mutual
theorem ExS.lt : ∀ {e : Ex} {l : List Value} {S : List Nat}, ExS tE w e l S → ∀ b ∈ S, b < w.heap.size
  | .mk k op wd nm kids a, l, S, h, b, hb => by
    rw [ExS] at h
    obtain ⟨oa, cap, xs, S', h1, h2, rfl, h4⟩ := h
    rcases List.mem_append.1 hb with hb | hb
    · exact (owns_lt h2 b hb).2
    · exact ExSs.lt h4 b hb
termination_by structural e => e
theorem ExSs.lt : ∀ {es : List Ex} {xs : List Value} {S : List Nat}, ExSs tE w es xs S → ∀ b ∈ S, b < w.heap.size
  | [], xs, S, h, b, hb => by rw [ExSs] at h; rw [h.2] at hb; cases hb
  | e :: r, xs, S, h, b, hb => by
    rw [ExSs] at h
    obtain ⟨v, S1, xr, Sr, rfl, rfl, h1, h2⟩ := h
    rcases List.mem_append.1 hb with hb | hb
    · exact ExS.lt h1 b hb
    · exact ExSs.lt h2 b hb
termination_by structural es => es
end
theorem ExR.lt {oa : Option Addr} {cap : Nat} {es : List Ex} {S : List Nat} (h : ExR tE w oa cap es S) : ∀ b ∈ S, b < w.heap.size := by
  obtain ⟨xs, S', h1, rfl, h3⟩ := h
  intro b hb
  rcases List.mem_append.1 hb with hb | hb
  · exact (owns_lt h1 b hb).2
  · exact ExSs.lt h3 b hb
mutual
theorem SmS.lt : ∀ {e : Sm} {l : List Value} {S : List Nat}, SmS tE tS w e l S → ∀ b ∈ S, b < w.heap.size
  | .mk k nm other e body els a, l, S, h, b, hb => by
    rw [SmS] at h
    obtain ⟨oe, ce, ob, cb, ol, cl, Se, xb, Sb, xl, Sl, h1, h2, h3, h4, h5, h6, rfl⟩ := h
    simp only [List.mem_append] at hb
    rcases hb with hb | (hb | hb) | (hb | hb)
    · exact h2.lt b hb
    · exact (owns_lt h3 b hb).2
    · exact SmSs.lt h4 b hb
    · exact (owns_lt h5 b hb).2
    · exact SmSs.lt h6 b hb
termination_by structural e => e
theorem SmSs.lt : ∀ {es : List Sm} {xs : List Value} {S : List Nat}, SmSs tE tS w es xs S → ∀ b ∈ S, b < w.heap.size
  | [], xs, S, h, b, hb => by rw [SmSs] at h; rw [h.2] at hb; cases hb
  | e :: r, xs, S, h, b, hb => by
    rw [SmSs] at h
    obtain ⟨v, S1, xr, Sr, rfl, rfl, h1, h2⟩ := h
    rcases List.mem_append.1 hb with hb | hb
    · exact SmS.lt h1 b hb
    · exact SmSs.lt h2 b hb
termination_by structural es => es
end
theorem SmR.lt {oa : Option Addr} {cap : Nat} {es : List Sm} {S : List Nat} (h : SmR tE tS w oa cap es S) : ∀ b ∈ S, b < w.heap.size := by
  obtain ⟨xs, S', h1, rfl, h3⟩ := h
  intro b hb
  rcases List.mem_append.1 hb with hb | hb
  · exact (owns_lt h1 b hb).2
  · exact SmSs.lt h3 b hb
theorem DcR.lt {oa : Option Addr} {cap : Nat} {es : List Dc} {S : List Nat} (h : DcR tD w oa cap es S) : ∀ b ∈ S, b < w.heap.size := by
  obtain ⟨h1, rfl⟩ := h
  exact fun b hb => (owns_lt h1 b hb).2
theorem ThS.lt {t : Th} {l : List Value} {S : List Nat} (h : ThS tE tS tD w t l S) : ∀ b ∈ S, b < w.heap.size := by
  obtain ⟨ol, cl, ob, cb, Sl, Sb, h1, h2, h3, rfl⟩ := h
  intro b hb
  rcases List.mem_append.1 hb with hb | hb
  · exact h2.lt b hb
  · exact h3.lt b hb
theorem ThSs.lt : ∀ {es : List Th} {xs : List Value} {S : List Nat}, ThSs tE tS tD w es xs S → ∀ b ∈ S, b < w.heap.size
  | [], xs, S, h, b, hb => by rw [ThSs] at h; rw [h.2] at hb; cases hb
  | e :: r, xs, S, h, b, hb => by
    rw [ThSs] at h
    obtain ⟨v, S1, xr, Sr, rfl, rfl, h1, h2⟩ := h
    rcases List.mem_append.1 hb with hb | hb
    · exact h1.lt b hb
    · exact ThSs.lt h2 b hb
theorem ThR.lt {oa : Option Addr} {cap : Nat} {es : List Th} {S : List Nat} (h : ThR tE tS tD tT w oa cap es S) : ∀ b ∈ S, b < w.heap.size := by
  obtain ⟨xs, S', h1, rfl, h3⟩ := h
  intro b hb
  rcases List.mem_append.1 hb with hb | hb
  · exact (owns_lt h1 b hb).2
  · exact ThSs.lt h3 b hb
theorem PgS.lt {p : Pg} {l : List Value} {S : List Nat} (h : PgS tE tS tD tT w p l S) : ∀ b ∈ S, b < w.heap.size := by
  obtain ⟨os, cs, ol, cl, ot, ct, Ss, Sl, St, h1, h2, h3, h4, rfl⟩ := h
  intro b hb
  simp only [List.mem_append] at hb
  rcases hb with hb | hb | hb
  · exact h2.lt b hb
  · exact h3.lt b hb
  · exact h4.lt b hb

/-! ### lists of them -/
theorem ExSs_app : ∀ {a b : List Ex} {xs : List Value} {S : List Nat}, ExSs tE w (a ++ b) xs S ↔ ∃ xa xb Sa Sb, xs = xa ++ xb ∧ S = Sa ++ Sb ∧ ExSs tE w a xa Sa ∧ ExSs tE w b xb Sb
  | [], b, xs, S => by
    simp only [List.nil_append, ExSs]
    constructor
    · intro h; exact ⟨[], xs, [], S, rfl, rfl, ⟨rfl, rfl⟩, h⟩
    · rintro ⟨xa, xb, Sa, Sb, rfl, rfl, ⟨rfl, rfl⟩, h⟩; exact h
  | e :: r, b, xs, S => by
    simp only [List.cons_append, ExSs]
    constructor
    · rintro ⟨v, S1, xr, Sr, rfl, rfl, h1, h2⟩
      obtain ⟨xa, xb, Sa, Sb, rfl, rfl, h3, h4⟩ := ExSs_app.1 h2
      exact ⟨v ++ xa, xb, S1 ++ Sa, Sb, by simp, by simp, ⟨v, S1, xa, Sa, rfl, rfl, h1, h3⟩, h4⟩
    · rintro ⟨_, xb, _, Sb, rfl, rfl, ⟨v, S1, xa, Sa, rfl, rfl, h1, h3⟩, h4⟩
      exact ⟨v, S1, xa ++ xb, Sa ++ Sb, by simp, by simp, h1, ExSs_app.2 ⟨xa, xb, Sa, Sb, rfl, rfl, h3, h4⟩⟩
theorem SmSs_app : ∀ {a b : List Sm} {xs : List Value} {S : List Nat}, SmSs tE tS w (a ++ b) xs S ↔ ∃ xa xb Sa Sb, xs = xa ++ xb ∧ S = Sa ++ Sb ∧ SmSs tE tS w a xa Sa ∧ SmSs tE tS w b xb Sb
  | [], b, xs, S => by
    simp only [List.nil_append, SmSs]
    constructor
    · intro h; exact ⟨[], xs, [], S, rfl, rfl, ⟨rfl, rfl⟩, h⟩
    · rintro ⟨xa, xb, Sa, Sb, rfl, rfl, ⟨rfl, rfl⟩, h⟩; exact h
  | e :: r, b, xs, S => by
    simp only [List.cons_append, SmSs]
    constructor
    · rintro ⟨v, S1, xr, Sr, rfl, rfl, h1, h2⟩
      obtain ⟨xa, xb, Sa, Sb, rfl, rfl, h3, h4⟩ := SmSs_app.1 h2
      exact ⟨v ++ xa, xb, S1 ++ Sa, Sb, by simp, by simp, ⟨v, S1, xa, Sa, rfl, rfl, h1, h3⟩, h4⟩
    · rintro ⟨_, xb, _, Sb, rfl, rfl, ⟨v, S1, xa, Sa, rfl, rfl, h1, h3⟩, h4⟩
      exact ⟨v, S1, xa ++ xb, Sa ++ Sb, by simp, by simp, h1, SmSs_app.2 ⟨xa, xb, Sa, Sb, rfl, rfl, h3, h4⟩⟩
theorem ThSs_app : ∀ {a b : List Th} {xs : List Value} {S : List Nat}, ThSs tE tS tD w (a ++ b) xs S ↔ ∃ xa xb Sa Sb, xs = xa ++ xb ∧ S = Sa ++ Sb ∧ ThSs tE tS tD w a xa Sa ∧ ThSs tE tS tD w b xb Sb
  | [], b, xs, S => by
    simp only [List.nil_append, ThSs]
    constructor
    · intro h; exact ⟨[], xs, [], S, rfl, rfl, ⟨rfl, rfl⟩, h⟩
    · rintro ⟨xa, xb, Sa, Sb, rfl, rfl, ⟨rfl, rfl⟩, h⟩; exact h
  | e :: r, b, xs, S => by
    simp only [List.cons_append, ThSs]
    constructor
    · rintro ⟨v, S1, xr, Sr, rfl, rfl, h1, h2⟩
      obtain ⟨xa, xb, Sa, Sb, rfl, rfl, h3, h4⟩ := ThSs_app.1 h2
      exact ⟨v ++ xa, xb, S1 ++ Sa, Sb, by simp, by simp, ⟨v, S1, xa, Sa, rfl, rfl, h1, h3⟩, h4⟩
    · rintro ⟨_, xb, _, Sb, rfl, rfl, ⟨v, S1, xa, Sa, rfl, rfl, h1, h3⟩, h4⟩
      exact ⟨v, S1, xa ++ xb, Sa ++ Sb, by simp, by simp, h1, ThSs_app.2 ⟨xa, xb, Sa, Sb, rfl, rfl, h3, h4⟩⟩
theorem ExSs_one {e : Ex} {xs : List Value} {S : List Nat} : ExSs tE w [e] xs S ↔ ExS tE w e xs S := by
  simp only [ExSs]
  constructor
  · rintro ⟨v, S1, xr, Sr, rfl, rfl, h1, rfl, rfl⟩; simpa using h1
  · intro h; exact ⟨xs, S, [], [], by simp, by simp, h, rfl, rfl⟩
theorem SmSs_one {e : Sm} {xs : List Value} {S : List Nat} : SmSs tE tS w [e] xs S ↔ SmS tE tS w e xs S := by
  simp only [SmSs]
  constructor
  · rintro ⟨v, S1, xr, Sr, rfl, rfl, h1, rfl, rfl⟩; simpa using h1
  · intro h; exact ⟨xs, S, [], [], by simp, by simp, h, rfl, rfl⟩
theorem ThSs_one {e : Th} {xs : List Value} {S : List Nat} : ThSs tE tS tD w [e] xs S ↔ ThS tE tS tD w e xs S := by
  simp only [ThSs]
  constructor
  · rintro ⟨v, S1, xr, Sr, rfl, rfl, h1, rfl, rfl⟩; simpa using h1
  · intro h; exact ⟨xs, S, [], [], by simp, by simp, h, rfl, rfl⟩
theorem SmSs.snoc {a : List Sm} {e : Sm} {xs l : List Value} {S S1 : List Nat} (h : SmSs tE tS w a xs S) (h1 : SmS tE tS w e l S1) : SmSs tE tS w (a ++ [e]) (xs ++ l) (S ++ S1) := SmSs_app.2 ⟨xs, l, S, S1, rfl, rfl, h, SmSs_one.2 h1⟩
theorem ThSs.snoc {a : List Th} {e : Th} {xs l : List Value} {S S1 : List Nat} (h : ThSs tE tS tD w a xs S) (h1 : ThS tE tS tD w e l S1) : ThSs tE tS tD w (a ++ [e]) (xs ++ l) (S ++ S1) := ThSs_app.2 ⟨xs, l, S, S1, rfl, rfl, h, ThSs_one.2 h1⟩
theorem ThSs.get : ∀ {es : List Th} {xs : List Value} {S : List Nat} {j : Nat} {e : Th}, ThSs tE tS tD w es xs S → es[j]? = some e → ∃ Sj, ThS tE tS tD w e ((xs.drop (j * 4)).take 4) Sj ∧ ∀ b ∈ Sj, b ∈ S
  | [], xs, S, j, e, h, hj => by simp at hj
  | x :: r, xs, S, 0, e, h, hj => by
    rw [ThSs] at h
    obtain ⟨v, S1, xr, Sr, rfl, rfl, h1, h2⟩ := h
    simp only [List.getElem?_cons_zero, Option.some.injEq] at hj
    subst hj
    refine ⟨S1, ?_, fun b hb => List.mem_append.2 (.inl hb)⟩
    simpa [List.take_append_of_le_length, List.take_of_length_le, h1.len] using h1
  | x :: r, xs, S, j + 1, e, h, hj => by
    rw [ThSs] at h
    obtain ⟨v, S1, xr, Sr, rfl, rfl, h1, h2⟩ := h
    obtain ⟨Sj, h3, h4⟩ := ThSs.get h2 (by simpa using hj)
    refine ⟨Sj, ?_, fun b hb => List.mem_append.2 (.inr (h4 b hb))⟩
    rw [show (j + 1) * 4 = v.length + j * 4 by rw [h1.len]; omega, ← List.drop_drop, List.drop_left]
    exact h3

/-! ### read as rows -/
theorem rowC_own {oa : Option Addr} {n cap E sz : Nat} {xs : List Value} {S : Nat → Prop} (h : w.ownsRow 0 E sz (.slice oa n cap) n xs) (hS : ∀ b ∈ obk oa, S b) : RowC w S sz oa n (fun j => (xs.drop (j * sz)).take sz) := by
  rcases Nat.eq_zero_or_pos n with h0 | h0
  · exact .inl h0
  · right
    obtain ⟨g, c, e, -⟩ := own_form h h0
    simp only [Value.slice.injEq] at e
    obtain ⟨rfl, -, rfl⟩ := e
    refine ⟨g, 0, rfl, hS g (by simp [obk]), (owns_lt h g (by simp [obk])).2, fun j hj => ⟨?_, fun i v hi => ?_⟩⟩
    · have h1 : xs.length = n * sz := h.1
      have h2 : j * sz + sz ≤ n * sz := by rw [← Nat.succ_mul]; exact Nat.mul_le_mul_right _ hj
      simp; omega
    · rw [List.getElem?_take] at hi
      split at hi
      · rw [List.getElem?_drop] at hi
        rw [Nat.zero_add]
        exact own_cell h hi
      · cases hi
mutual
theorem ExS.toV {T : Nat → Prop} : ∀ {e : Ex} {l : List Value} {S : List Nat}, ExS tE w e l S → (∀ b ∈ S, T b) → ExV w T e l
  | .mk k op wd nm kids a, l, S, h, hS => by
    rw [ExS] at h
    obtain ⟨oa, cap, xs, S', rfl, h2, rfl, h4⟩ := h
    refine .mk _ (rowC_own h2 fun b hb => hS b (List.mem_append.2 (.inl hb))) ?_
    exact ExSs.toV h4 (fun b hb => hS b (List.mem_append.2 (.inr hb)))
termination_by structural e => e
theorem ExSs.toV {T : Nat → Prop} : ∀ {es : List Ex} {xs : List Value} {S : List Nat}, ExSs tE w es xs S → (∀ b ∈ S, T b) → ∀ (j : Nat) x, es[j]? = some x → ExV w T x ((xs.drop (j * 6)).take 6)
  | [], xs, S, h, hS, j, x, hx => by simp at hx
  | e :: r, xs, S, h, hS, 0, x, hx => by
    rw [ExSs] at h
    obtain ⟨v, S1, xr, Sr, rfl, rfl, h1, h2⟩ := h
    simp only [List.getElem?_cons_zero, Option.some.injEq] at hx
    subst hx
    have := ExS.toV h1 (fun b hb => hS b (List.mem_append.2 (.inl hb)))
    simpa [List.take_append_of_le_length, List.take_of_length_le, h1.len] using this
  | e :: r, xs, S, h, hS, j + 1, x, hx => by
    rw [ExSs] at h
    obtain ⟨v, S1, xr, Sr, rfl, rfl, h1, h2⟩ := h
    have := ExSs.toV h2 (fun b hb => hS b (List.mem_append.2 (.inr hb))) j x (by simpa using hx)
    rw [show (j + 1) * 6 = v.length + j * 6 by rw [h1.len]; omega, ← List.drop_drop, List.drop_left]
    exact this
termination_by structural es => es
end
theorem ExR.toRow {T : Nat → Prop} {oa : Option Addr} {cap : Nat} {es : List Ex} {S : List Nat} (h : ExR tE w oa cap es S) (hS : ∀ b ∈ S, T b) : ExRow w T oa es := by
  obtain ⟨xs, S', h1, rfl, h3⟩ := h
  exact ⟨_, rowC_own h1 fun b hb => hS b (List.mem_append.2 (.inl hb)), ExSs.toV h3 (fun b hb => hS b (List.mem_append.2 (.inr hb)))⟩
mutual
theorem SmS.toV {T : Nat → Prop} : ∀ {e : Sm} {l : List Value} {S : List Nat}, SmS tE tS w e l S → (∀ b ∈ S, T b) → SmV w T e l
  | .mk k nm other e body els a, l, S, h, hS => by
    rw [SmS] at h
    obtain ⟨oe, ce, ob, cb, ol, cl, Se, xb, Sb, xl, Sl, rfl, h2, h3, h4, h5, h6, rfl⟩ := h
    exact .mk _ _ (h2.toRow fun b hb => hS b (by simp [hb])) (rowC_own h3 fun b hb => hS b (by simp [hb])) (SmSs.toV h4 fun b hb => hS b (by simp [hb])) (rowC_own h5 fun b hb => hS b (by simp [hb])) (SmSs.toV h6 fun b hb => hS b (by simp [hb]))
termination_by structural e => e
theorem SmSs.toV {T : Nat → Prop} : ∀ {es : List Sm} {xs : List Value} {S : List Nat}, SmSs tE tS w es xs S → (∀ b ∈ S, T b) → ∀ (j : Nat) x, es[j]? = some x → SmV w T x ((xs.drop (j * 7)).take 7)
  | [], xs, S, h, hS, j, x, hx => by simp at hx
  | e :: r, xs, S, h, hS, 0, x, hx => by
    rw [SmSs] at h
    obtain ⟨v, S1, xr, Sr, rfl, rfl, h1, h2⟩ := h
    simp only [List.getElem?_cons_zero, Option.some.injEq] at hx
    subst hx
    have := SmS.toV h1 (fun b hb => hS b (List.mem_append.2 (.inl hb)))
    simpa [List.take_append_of_le_length, List.take_of_length_le, h1.len] using this
  | e :: r, xs, S, h, hS, j + 1, x, hx => by
    rw [SmSs] at h
    obtain ⟨v, S1, xr, Sr, rfl, rfl, h1, h2⟩ := h
    have := SmSs.toV h2 (fun b hb => hS b (List.mem_append.2 (.inr hb))) j x (by simpa using hx)
    rw [show (j + 1) * 7 = v.length + j * 7 by rw [h1.len]; omega, ← List.drop_drop, List.drop_left]
    exact this
termination_by structural es => es
end
theorem SmR.toRow {T : Nat → Prop} {oa : Option Addr} {cap : Nat} {es : List Sm} {S : List Nat} (h : SmR tE tS w oa cap es S) (hS : ∀ b ∈ S, T b) : SmRow w T oa es := by
  obtain ⟨xs, S', h1, rfl, h3⟩ := h
  exact ⟨_, rowC_own h1 fun b hb => hS b (List.mem_append.2 (.inl hb)), SmSs.toV h3 (fun b hb => hS b (List.mem_append.2 (.inr hb)))⟩
theorem dcs_chunk : ∀ {ds : List Dc} {j : Nat} {d : Dc}, ds[j]? = some d → ((ds.flatMap dcL).drop (j * 3)).take 3 = dcL d
  | [], j, d, h => by simp at h
  | x :: r, 0, d, h => by
    simp only [List.getElem?_cons_zero, Option.some.injEq] at h
    subst h
    simp [dcL]
  | x :: r, j + 1, d, h => by
    rw [List.flatMap_cons, show (j + 1) * 3 = (dcL x).length + j * 3 by simp [dcL]; omega, ← List.drop_drop, List.drop_left]
    exact dcs_chunk (by simpa using h)
theorem DcR.toRow {T : Nat → Prop} {oa : Option Addr} {cap : Nat} {es : List Dc} {S : List Nat} (h : DcR tD w oa cap es S) (hS : ∀ b ∈ S, T b) : DcRow w T oa es := by
  obtain ⟨h1, rfl⟩ := h
  refine (rowC_own h1 hS).imp id fun ⟨b, off, e, hb, hl, hc⟩ => ⟨b, off, e, hb, hl, fun j hj => ?_⟩
  have := hc j hj
  dsimp only at this
  rw [dcs_chunk (List.getElem?_eq_getElem hj)] at this
  simpa only [List.getD, List.getElem?_eq_getElem hj, Option.getD_some] using this
theorem ThS.toV {T : Nat → Prop} {t : Th} {l : List Value} {S : List Nat} (h : ThS tE tS tD w t l S) (hS : ∀ b ∈ S, T b) : ThV w T t l := by
  obtain ⟨ol, cl, ob, cb, Sl, Sb, h1, h2, h3, rfl⟩ := h
  exact ⟨ol, cl, ob, cb, h1, h2.toRow fun b hb => hS b (by simp [hb]), h3.toRow fun b hb => hS b (by simp [hb])⟩
theorem ThSs.toV {T : Nat → Prop} {es : List Th} {xs : List Value} {S : List Nat} (h : ThSs tE tS tD w es xs S) (hS : ∀ b ∈ S, T b) (j : Nat) (x : Th) (hx : es[j]? = some x) : ThV w T x ((xs.drop (j * 4)).take 4) := by
  obtain ⟨Sj, h1, h2⟩ := h.get hx
  exact h1.toV fun b hb => hS b (h2 b hb)
theorem ThR.toRow {T : Nat → Prop} {oa : Option Addr} {cap : Nat} {es : List Th} {S : List Nat} (h : ThR tE tS tD tT w oa cap es S) (hS : ∀ b ∈ S, T b) : ThRow w T oa es := by
  obtain ⟨xs, S', h1, rfl, h3⟩ := h
  exact ⟨_, rowC_own h1 fun b hb => hS b (List.mem_append.2 (.inl hb)), h3.toV (fun b hb => hS b (List.mem_append.2 (.inr hb)))⟩
theorem PgS.toV {T : Nat → Prop} {p : Pg} {l : List Value} {S : List Nat} (h : PgS tE tS tD tT w p l S) (hS : ∀ b ∈ S, T b) : PgV w T p l := by
  obtain ⟨os, cs, ol, cl, ot, ct, Ss, Sl, St, h1, h2, h3, h4, rfl⟩ := h
  exact ⟨os, cs, ol, cl, ot, ct, h1, h2.toRow fun b hb => hS b (by simp [hb]), h3.toRow fun b hb => hS b (by simp [hb]), h4.toRow fun b hb => hS b (by simp [hb])⟩

/-! ### new trees, held -/
/-- the blocks are new since 'n', each is named once -/
def Nw (n : Nat) (S : List Nat) : Prop := S.Nodup ∧ ∀ b ∈ S, n ≤ b
theorem Nw.nil {n : Nat} : Nw n [] := ⟨List.nodup_nil, by simp⟩
theorem Nw.le {n m : Nat} {S : List Nat} (h : Nw n S) (hm : m ≤ n) : Nw m S := ⟨h.1, fun b hb => Nat.le_trans hm (h.2 b hb)⟩
theorem Nw.app {n : Nat} {S T : List Nat} (h : Nw n S) (k : Nw n T) (hd : ∀ b ∈ S, b ∉ T) : Nw n (S ++ T) := ⟨List.nodup_append.2 ⟨h.1, k.1, fun a ha b hb e => hd a ha (e ▸ hb)⟩, fun b hb => by
  rcases List.mem_append.1 hb with h1 | h1
  · exact h.2 b h1
  · exact k.2 b h1⟩
theorem Nw.left {n : Nat} {S T : List Nat} (h : Nw n (S ++ T)) : Nw n S := ⟨(List.nodup_append.1 h.1).1, fun b hb => h.2 b (List.mem_append.2 (.inl hb))⟩
theorem Nw.right {n : Nat} {S T : List Nat} (h : Nw n (S ++ T)) : Nw n T := ⟨(List.nodup_append.1 h.1).2.1, fun b hb => h.2 b (List.mem_append.2 (.inr hb))⟩
/-- what hangs on the blocks 'S' alone -/
theorem loc_of {S : List Nat} {φ : World → Prop} (h : ∀ w w', φ w → (∀ b ∈ S, w'.heap[b]? = w.heap[b]?) → φ w') : Loc S φ := fun a b _ hk hp => h a b hp hk
theorem holds_of {base : Nat} {S : List Nat} {φ : World → Prop} (h : φ w) (hlt : ∀ b ∈ S, b < w.heap.size) (hk : ∀ w w', φ w → (∀ b ∈ S, w'.heap[b]? = w.heap[b]?) → φ w') : (Res.tree S φ).holds base w := ⟨h, hlt, loc_of hk⟩
end
end Sx


/- The engine, nineteenth part: rows of another's copied; new trees put together. -/
namespace Sx
open Go Go.RowKit
section
variable {w0 w w' : World} {M : List Nat} {hs : List Res}
variable {P : Program} {n : Fr} {L : List Oper} {Q : Exit → Act → World → Prop} {kn : Kn} {N : Act → World → Prop}
variable {d ty : Nat} {pos : String} {aft : Array Edge} {g : Option (Nat × Bool)}
/-- a row that can be read, or an empty one -/
def RdRowC (w : World) (oa : Option Addr) (l : List Value) : Prop := l = [] ∨ ∃ a, oa = some a ∧ ∀ k u, l[k]? = some u → w.cell? (a.add k) = some u
theorem run_append_none' (base : Nat) (t ty e : TypeId) (i : TypeInfo) (size c : Nat) (ht : P.underlying t = some (.slice e)) (hi : P.info? e = some i) (v : Value) (n : Nat) (xs : List Value) (hown : w.ownsRow base e size v n xs) :
    (Builtin.append_ #[t, t] ty #[v, .slice none 0 c]).run P w = .ok v w := by
  rcases hown.2 with ⟨rfl, rfl⟩ | ⟨g, cap, cur, rfl, _, _, hnc, _⟩
  · simp [Builtin.append_, run_underlying ht, Go.sizeOf, typeInfo, hi, Builtin.lenOf, Builtin.firstCells]
  · simp [Builtin.append_, run_underlying ht, Go.sizeOf, typeInfo, hi, Builtin.lenOf, Builtin.firstCells, hnc, storeCells]
theorem e_appr (st : St w0 M hs w) (i : Nat) {T E size bytes m len c : Nat} {x y : Operand} {v z : Value} {oa : Option Addr} {xs l : List Value} {ti : TypeInfo} (hw : gd L kn g = some true) (hd : okDst n (some d) = true)
    (hx : evO kn x = some v) (hy : evO kn y = some (.slice oa m c)) (hi : nth hs i = some (.own v E size len xs)) (hsrc : RdRowC w oa l)
    (ht : P.underlying T = some (.slice E)) (hinfo : P.info? E = some ti) (hz : ti.zero = some z) (hsize : ti.size = size) (hby : ti.bytes = bytes) (hzs : z.cells.size = size) (hsz : Nat.blt 0 size = true)
    (hl : l.length = m * size) (h1 : ∀ u ∈ l, u.oneCell' = true) (h63 : len + m ≤ maxLen) (hbytes : (len + m) * bytes ≤ 140737488355328) {len' : Nat} {ys : List Value} (hlen' : len + m = len') (hys : xs ++ l = ys)
    (next : ∀ oa cap w', St w0 M (setNth hs i (.own (.slice oa len' cap) E size len' ys)) w' → vN n N ((d, .slice oa len' cap) :: kn) w') :
    vS P n L Q ⟨some d, .call ⟨.builtin .append, #[x, y], #[T, T]⟩, ty, pos, aft, g⟩ N kn w := by
  subst hlen' hys
  have hsz' : 0 < size := by simpa [Nat.blt_eq] using hsz
  have hown0 : w.ownsRow w0.heap.size E size v len xs := st.res hi
  obtain ⟨v', w', hr, hown, hg, hat, ⟨oa', cap, rfl⟩⟩ : ∃ v' w', (Builtin.append_ #[T, T] ty #[v, .slice oa m c]).run P w = .ok v' w' ∧ w'.ownsRow w0.heap.size E size v' (len + m) (xs ++ l) ∧ w.grownBy w' v.ownBlock ∧
      (v'.ownBlock = v.ownBlock ∨ v'.ownBlock = some w.heap.size) ∧ ∃ oa cap, v' = .slice oa (len + m) cap := by
    have hform : ∀ {v' : Value} {w' : World} {k : Nat} {ys : List Value}, w'.ownsRow w0.heap.size E size v' k ys → ∃ oa cap, v' = .slice oa k cap := by
      intro v' w' k ys hown
      rcases hown.2 with ⟨rfl, h0⟩ | ⟨g, cap, cur, rfl, _⟩
      · exact ⟨none, 0, by rw [h0]⟩
      · exact ⟨_, _, rfl⟩
    have key : ∀ a, oa = some a → (∀ k u, l[k]? = some u → w.cell? (a.add k) = some u) → ∃ v' w', (Builtin.append_ #[T, T] ty #[v, .slice oa m c]).run P w = .ok v' w' ∧ w'.ownsRow w0.heap.size E size v' (len + m) (xs ++ l) ∧ w.grownBy w' v.ownBlock ∧
      (v'.ownBlock = v.ownBlock ∨ v'.ownBlock = some w.heap.size) ∧ ∃ oa cap, v' = .slice oa (len + m) cap := by
      rintro a rfl hc
      obtain ⟨v', w', hr, hown, hg, hnil, hat⟩ := run_append_own_at (P := P) w w0.heap.size T ty E ti z size bytes ht hinfo hz hsize hby hzs hsz' v len xs hown0 a m c l hl
        (fun k u hk => hc k u hk) h1 h63 hbytes st.chg.size
      exact ⟨v', w', hr, hown, hg, hat, hform hown⟩
    rcases hsrc with rfl | ⟨a, ha, hc⟩
    · obtain rfl : m = 0 := by
        simp only [List.length_nil] at hl
        rcases Nat.eq_zero_or_pos m with h | h
        · exact h
        · have := Nat.mul_pos h hsz'; omega
      cases oa with
      | none => exact ⟨v, w, run_append_none' w0.heap.size T ty E ti size c ht hinfo v len xs hown0, by simpa using hown0, ⟨rfl, rfl, rfl, Nat.le_refl _, fun _ _ _ => rfl⟩, .inl rfl, hform hown0⟩
      | some a => exact key a rfl (fun k u hk => by simp at hk)
    · exact key a ha hc
  refine e_bi [v, .slice oa m c] hw hd (by simp [hx, hy]) (w' := w') (fun cs => ?_) (next oa' cap w' (st.app hi hg hown hat))
  simp only [builtin, Sem.run_bind, List.toArray, hr]
  rfl
theorem dcs_len (ds : List Dc) : (ds.flatMap dcL).length = ds.length * 3 := by
  induction ds with
  | nil => rfl
  | cons x r ih => rw [List.flatMap_cons, List.length_append, ih]; simp [dcL]; omega
theorem dcs_one (ds : List Dc) : ∀ u ∈ ds.flatMap dcL, u.oneCell' = true := by
  intro u hu
  obtain ⟨x, _, hx⟩ := List.mem_flatMap.1 hu
  simp only [dcL, List.mem_cons, List.not_mem_nil, or_false] at hx
  rcases hx with rfl | rfl | rfl <;> rfl
/-- the owned row at 'i' is done: it is a tree with what hangs on it -/
theorem St.ownNw (st : St w0 M hs w) {i : Nat} {E size len cap : Nat} {oa : Option Addr} {xs : List Value} (hi : nth hs i = some (.own (.slice oa len cap) E size len xs)) : w.ownsRow 0 E size (.slice oa len cap) len xs ∧ Nw w0.heap.size (obk oa) := by
  have h : w.ownsRow w0.heap.size E size (.slice oa len cap) len xs := st.res hi
  refine ⟨owns_mono h (fun b _ => Nat.zero_le _), ?_, fun b hb => (owns_lt h b hb).1⟩
  cases oa <;> simp [obk]
/-- the first 'n' become one -/
theorem St.joinN (st : St w0 M hs w) (n : Nat) {q : Res} (hat : ∀ k ∈ q.at?, ∃ r ∈ hs.take n, k ∈ r.at?) (hq : q.holds w0.heap.size w) : St w0 M (q :: hs.drop n) w := by
  have hnd := st.nodup
  unfold Apart at hnd
  rw [← List.take_append_drop n hs, List.pairwise_append] at hnd
  obtain ⟨h1, h2, h3⟩ := hnd
  refine ⟨st.chg, List.pairwise_cons.2 ⟨fun x hx k hk hk' => ?_, h2⟩, fun x hx => ?_⟩
  · obtain ⟨r, hr, hkr⟩ := hat k hk
    exact h3 r hr x hx k hkr hk'
  · rcases List.mem_cons.1 hx with rfl | h
    · exact hq
    · exact st.here x (List.mem_of_mem_drop h)
/-- what two resources lie at is apart -/
theorem St.ne (st : St w0 M hs w) {i j : Nat} {r s : Res} (hij : i ≠ j) (hi : nth hs i = some r) (hj : nth hs j = some s) : ∀ k ∈ r.at?, k ∉ s.at? := apart_nth st.nodup hij hi hj
end
end Sx


/- The engine, twenty-first part: trees that are written over in their own places. -/
namespace Sx
open Go Go.RowKit

section
variable {α : Type} {V : World → α → List Value → List Nat → Prop} {w w' : World} {sz : Nat}
end
section
variable {w0 w w' : World} {M : List Nat} {hs : List Res}
variable {P : Program} {n : Fr} {L : List Oper} {Q : Exit → Act → World → Prop} {kn : Kn} {N : Act → World → Prop}
variable {d ty : Nat} {pos : String} {aft : Array Edge} {g : Option (Nat × Bool)}
end
end Sx


/- The engine, twenty-third part: the rows of the language's trees, one of a row written over. -/
namespace Sx
open Go Go.RowKit
section
variable {tE tS tD tT : Nat} {w w' : World}
/-- what a row's block is: it is there, not frozen, and of the tree -/
structure RowAt (w : World) (b : Nat) (S : List Nat) : Prop where
  mem : b ∈ S
  lt : b < w.heap.size
  fz : ∀ i, w.frozen? ⟨b, i, none⟩ = false
end
/-- a tree falls in two -/
theorem St.split {w0 w : World} {M S T : List Nat} {hs : List Res} {χ φ ψ : World → Prop} (st : St w0 M (.tree (S ++ T) χ :: hs) w) (hn : (S ++ T).Nodup) (h1 : φ w) (h2 : ψ w) (k1 : Sx.Loc S φ) (k2 : Sx.Loc T ψ) : St w0 M (.tree S φ :: .tree T ψ :: hs) w := by
  have h := st.res (i := 0) rfl
  have hnd := List.pairwise_cons.1 st.nodup
  refine ⟨st.chg, List.pairwise_cons.2 ⟨fun x hx => ?_, List.pairwise_cons.2 ⟨fun x hx k hk => hnd.1 x hx k (List.mem_append.2 (.inr hk)), hnd.2⟩⟩, fun x hx => ?_⟩
  · rcases List.mem_cons.1 hx with rfl | hx
    · exact fun k hk hk' => (List.nodup_append.1 hn).2.2 k hk k hk' rfl
    · exact fun k hk => hnd.1 x hx k (List.mem_append.2 (.inl hk))
  · rcases List.mem_cons.1 hx with rfl | hx
    · exact ⟨h1, fun k hk => h.2.1 k (List.mem_append.2 (.inl hk)), k1⟩
    · rcases List.mem_cons.1 hx with rfl | hx
      · exact ⟨h2, fun k hk => h.2.1 k (List.mem_append.2 (.inr hk)), k2⟩
      · exact st.here x (.tail _ hx)
end Sx


/- A map that counts words: its keys in the order of their birth; a range over it. -/
namespace Sx
open Go Go.RowKit

abbrev Wd := List UInt8
/-- what the entries of such a map are -/
structure Ents (es : List MapEntry) (ks : List Wd) : Prop where
  key : es.map (·.key) = ks.map str
  val : ∀ e ∈ es, ∃ c, e.val = .int .i64 c
  born : ∀ (i : Nat) (e : MapEntry), es[i]? = some e → e.born = i

theorem bytes_beq (s t : Wd) : ((⟨s.toArray⟩ : ByteArray) == ⟨t.toArray⟩) = decide (s = t) := by
  show (s.toArray == t.toArray) = _
  rw [Bool.eq_iff_iff]; simp

section
variable {P : Program} {n : Fr} {L : List Oper} {Q : Exit → Act → World → Prop} {kn : Kn} {w0 w : World} {M : List Nat} {hs : List Res} {N : Act → World → Prop}
variable {d ty : Nat} {pos : String} {aft : Array Edge} {g : Option (Nat × Bool)}

theorem checkKey_str {k : Nat} (hk : P.underlying k = some .string) (em : Bool) (s : Wd) (w : World) : (Instr.checkKey em 10000 k (str s)).run P w = .ok () w := by
  show (Instr.checkKey em (9999 + 1) k (str s)).run P w = _
  unfold Instr.checkKey
  simp [Sem.run_bind, underlying, Sem.run, hk, Result.andThen, str]

theorem findKey_str {k : Nat} (hk : P.underlying k = some .string) {s : Wd} {es : List MapEntry} {r : Option (Nat × Value)} (h : Instr.findNow .string (str s) es 0 = some r) (w : World) : (Instr.findKey k (str s) es).run P w = .ok r w := by
  simp [Instr.findKey, Sem.run_bind, underlying, Sem.run, hk, Result.andThen, h]

theorem setObj_chg {b : Nat} {o o' : Obj} (hb : w.heap[b]? = some o) (hn : ∀ c e f, o ≠ .cells c e f) : (setObj b o').run P w = .ok () (ChangeMaps.setBlock w b o') ∧ Chg [b] w (ChangeMaps.setBlock w b o') ∧ (ChangeMaps.setBlock w b o').heap[b]? = some o' := by
  have hlt := (Array.getElem?_eq_some_iff.1 hb).1
  refine ⟨?_, ⟨rfl, rfl, rfl, by simp [ChangeMaps.setBlock], fun i _ hi => ?_⟩, ?_⟩
  · simp only [setObj, Sem.run, hb, ChangeMaps.setBlock]
    try (cases o <;> first | rfl | exact absurd rfl (hn _ _ _))
  · simp only [ChangeMaps.setBlock]; rw [Array.getElem?_setIfInBounds_ne (fun e => hi (by simp [e]))]
  · simp only [ChangeMaps.setBlock]; rw [Array.getElem?_setIfInBounds_self_of_lt hlt]

/-! ## the range -/
end
end Sx

