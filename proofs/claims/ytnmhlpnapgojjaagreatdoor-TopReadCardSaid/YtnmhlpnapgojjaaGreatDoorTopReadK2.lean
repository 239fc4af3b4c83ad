/- A part of the proof: contracts of functions and plain laws; each theorem says its own conditions. -/
import Derived.Maps.RangeRun
import Derived.Recover
import Derived.Lib.Bytealg
import Derived.Test.YtnmhlpnapgojjaaGreatDoorRows
import Derived.Test.YtnmhlpnapgojjaaGreatDoorTopReadK1
import Derived.Test.YtnmhlpnapgojjaaGreatDoorTopReadK0
set_option linter.unusedVariables false
set_option linter.unusedSimpArgs false
/- The engine, twenty-first part: trees that are written over in their own places. -/
namespace Sx
open Go Go.RowKit

/-- a row of things, each with what hangs on it -/
def RowS {α : Type} (V : World → α → List Value → List Nat → Prop) (w : World) : List α → List Value → List Nat → Prop
  | [], xs, S => xs = [] ∧ S = []
  | e :: r, xs, S => ∃ v S1 xr Sr, xs = v ++ xr ∧ S = S1 ++ Sr ∧ V w e v S1 ∧ RowS V w r xr Sr
theorem exSs_row {tE : Nat} {w : World} : ∀ {es : List Ex} {xs : List Value} {S : List Nat}, ExSs tE w es xs S ↔ RowS (ExS tE) w es xs S
  | [], xs, S => by simp only [ExSs, RowS]
  | e :: r, xs, S => by simp only [ExSs, RowS, exSs_row (es := r)]
theorem smSs_row {tE tS : Nat} {w : World} : ∀ {es : List Sm} {xs : List Value} {S : List Nat}, SmSs tE tS w es xs S ↔ RowS (SmS tE tS) w es xs S
  | [], xs, S => by simp only [SmSs, RowS]
  | e :: r, xs, S => by simp only [SmSs, RowS, smSs_row (es := r)]
theorem thSs_row {tE tS tD : Nat} {w : World} : ∀ {es : List Th} {xs : List Value} {S : List Nat}, ThSs tE tS tD w es xs S ↔ RowS (ThS tE tS tD) w es xs S
  | [], xs, S => by simp only [ThSs, RowS]
  | e :: r, xs, S => by simp only [ThSs, RowS, thSs_row (es := r)]
section
variable {α : Type} {V : World → α → List Value → List Nat → Prop} {w w' : World} {sz : Nat}
theorem RowS.kept (hV : ∀ w w' x v S, V w x v S → (∀ b ∈ S, w'.heap[b]? = w.heap[b]?) → V w' x v S) : ∀ {es : List α} {xs : List Value} {S : List Nat}, RowS V w es xs S → (∀ b ∈ S, w'.heap[b]? = w.heap[b]?) → RowS V w' es xs S
  | [], xs, S, h, hk => h
  | e :: r, xs, S, h, hk => by
    obtain ⟨v, S1, xr, Sr, rfl, rfl, h1, h2⟩ := h
    exact ⟨v, S1, xr, Sr, rfl, rfl, hV _ _ _ _ _ h1 (fun b hb => hk b (List.mem_append.2 (.inl hb))), RowS.kept hV h2 (fun b hb => hk b (List.mem_append.2 (.inr hb)))⟩
/-- one of a row looked at; and another put in its place -/
theorem RowS.focus (hlen : ∀ w x v S, V w x v S → v.length = sz) (hV : ∀ w w' x v S, V w x v S → (∀ b ∈ S, w'.heap[b]? = w.heap[b]?) → V w' x v S) : ∀ {es : List α} {xs : List Value} {S : List Nat} {j : Nat} {e : α}, RowS V w es xs S → es[j]? = some e →
    ∃ v Sj S1 S2 xa xb, xs = xa ++ v ++ xb ∧ xa.length = j * sz ∧ S = S1 ++ Sj ++ S2 ∧ V w e v Sj ∧
      ∀ (w' : World) (e' : α) (v' : List Value), V w' e' v' Sj → (∀ b ∈ S1 ++ S2, w'.heap[b]? = w.heap[b]?) → RowS V w' (es.set j e') (xa ++ v' ++ xb) S
  | [], xs, S, j, e, h, hj => by simp at hj
  | x :: r, xs, S, 0, e, h, hj => by
    obtain ⟨v, S1, xr, Sr, rfl, rfl, h1, h2⟩ := h
    simp only [List.getElem?_cons_zero, Option.some.injEq] at hj
    subst hj
    refine ⟨v, S1, [], Sr, [], xr, by simp, by simp, by simp, h1, fun w' e' v' hv' hk => ?_⟩
    refine ⟨v', S1, xr, Sr, by simp, rfl, hv', RowS.kept hV h2 fun b hb => hk b (by simpa using hb)⟩
  | x :: r, xs, S, j + 1, e, h, hj => by
    obtain ⟨v, S1, xr, Sr, rfl, rfl, h1, h2⟩ := h
    obtain ⟨u, Sj, T1, T2, xa, xb, rfl, h3, rfl, h4, h5⟩ := RowS.focus hlen hV h2 (by simpa using hj)
    refine ⟨u, Sj, S1 ++ T1, T2, v ++ xa, xb, by simp, by rw [List.length_append, hlen _ _ _ _ h1, h3, Nat.succ_mul]; omega, by simp, h4, fun w' e' v' hv' hk => ?_⟩
    refine ⟨v, S1, xa ++ v' ++ xb, T1 ++ Sj ++ T2, by simp, by simp, hV _ _ _ _ _ h1 fun b hb => hk b (by simp [hb]), ?_⟩
    exact h5 w' e' v' hv' fun b hb => hk b (by simp only [List.mem_append] at hb ⊢; rcases hb with h | h; exact .inl (.inr h); exact .inr h)
/-- a row in a block of its own -/
def RowT {α : Type} (V : World → α → List Value → List Nat → Prop) (E sz : Nat) (w : World) (oa : Option Addr) (cap : Nat) (es : List α) (S : List Nat) : Prop := ∃ xs S', w.ownsRow 0 E sz (.slice oa es.length cap) es.length xs ∧ S = obk oa ++ S' ∧ RowS V w es xs S'
/-- the cells of one; a cell of it stored; what hangs on it turned -/
theorem RowT.focus {E : Nat} (hsz : 0 < sz) (hlen : ∀ w x v S, V w x v S → v.length = sz) (hV : ∀ w w' x v S, V w x v S → (∀ b ∈ S, w'.heap[b]? = w.heap[b]?) → V w' x v S) {oa : Option Addr} {cap : Nat} {es : List α} {S : List Nat} {j : Nat} {e : α} (h : RowT V E sz w oa cap es S) (hS : S.Nodup) (hj : es[j]? = some e) :
    ∃ b v Sj S1 S2, oa = some ⟨b, 0, none⟩ ∧ b < w.heap.size ∧ S = [b] ++ (S1 ++ Sj ++ S2) ∧ V w e v Sj ∧ (∀ i u, v[i]? = some u → w.cell? ⟨b, j * sz + i, none⟩ = some u) ∧ (∀ i, w.frozen? ⟨b, i, none⟩ = false) ∧
      (∀ (i : Nat) (u : Value) (e' : α), i < sz → V w e' (v.set i u) Sj → RowT V E sz (w.setCell ⟨b, j * sz + i, none⟩ u) oa cap (es.set j e') S) ∧
      (∀ (w' : World) (e' : α), V w' e' v Sj → w.heap.size ≤ w'.heap.size → (∀ k, k < w.heap.size → k ∉ Sj → w'.heap[k]? = w.heap[k]?) → (∀ k ∈ S, k < w.heap.size) → RowT V E sz w' oa cap (es.set j e') S) := by
  obtain ⟨xs, S', ho, rfl, hr⟩ := h
  obtain ⟨v, Sj, S1, S2, xa, xb, rfl, hxa, rfl, hv, hput⟩ := RowS.focus hlen hV hr hj
  have hjl := (List.getElem?_eq_some_iff.1 hj).1
  obtain ⟨b, c, e0, -⟩ := own_form ho (by omega)
  simp only [Value.slice.injEq] at e0
  obtain ⟨rfl, -, rfl⟩ := e0
  have hvl := hlen _ _ _ _ hv
  have hnd := List.nodup_append.1 hS
  have hbn : b ∉ S1 ++ Sj ++ S2 := fun hb => hnd.2.2 b (by simp [obk]) b hb rfl
  have hSj : ∀ k ∈ Sj, k ∉ S1 ++ S2 := by
    have h2 := hnd.2.1
    rw [List.nodup_append, List.nodup_append] at h2
    obtain ⟨⟨-, -, q1⟩, -, q2⟩ := h2
    intro k hk hk'
    rcases List.mem_append.1 hk' with h | h
    · exact q1 k h k hk rfl
    · exact q2 k (List.mem_append.2 (.inr hk)) k h rfl
  refine ⟨b, v, Sj, S1, S2, rfl, (owns_lt ho b (by simp [obk])).2, rfl, hv, fun i u hi => ?_, fun i => World.ownsRow.frozenAt ho i, fun i u e' hi hv' => ?_, fun w' e' hv' hle hk hlt => ?_⟩
  · have hil := (List.getElem?_eq_some_iff.1 hi).1
    refine own_cell ho ?_
    rw [List.append_assoc, List.getElem?_append_right (by omega), hxa, Nat.add_sub_cancel_left, List.getElem?_append_left hil]
    exact hi
  · have hst := World.ownsRow.stored ho (j * sz + i) u
    refine ⟨xa ++ v.set i u ++ xb, S1 ++ Sj ++ S2, ?_, rfl, ?_⟩
    · rw [List.length_set]
      have e1 : (xa ++ v ++ xb).set (j * sz + i) u = xa ++ v.set i u ++ xb := by
        rw [List.append_assoc, List.set_append_right _ _ (by omega), hxa, Nat.add_sub_cancel_left, List.set_append_left _ _ (by omega), ← List.append_assoc]
      rw [← e1]
      exact hst.1
    · have same : ∀ k ∈ S1 ++ Sj ++ S2, (w.setCell ⟨b, j * sz + i, none⟩ u).heap[k]? = w.heap[k]? := fun k hk => Below.heap_setCell w _ u k (by rintro rfl; exact hbn hk)
      exact hput _ e' _ (hV _ _ _ _ _ hv' fun k hk => same k (by simp [hk])) fun k hk => same k (by simp only [List.mem_append] at hk ⊢; rcases hk with h | h; exact .inl (.inl h); exact .inr h)
  · have same : ∀ k ∈ [b] ++ (S1 ++ S2), w'.heap[k]? = w.heap[k]? := fun k hkm => by
      have hin : k ∈ obk (some (⟨b, 0, none⟩ : Addr)) ++ (S1 ++ Sj ++ S2) := by
        simp only [obk, List.mem_append, List.mem_singleton] at hkm ⊢
        rcases hkm with h | h | h
        · exact .inl h
        · exact .inr (.inl (.inl h))
        · exact .inr (.inr h)
      refine hk k (hlt k hin) fun hkj => ?_
      simp only [List.mem_append, List.mem_singleton] at hkm
      rcases hkm with rfl | h
      · exact hbn (by simp [hkj])
      · exact hSj k hkj (by simpa using h)
    refine ⟨xa ++ v ++ xb, S1 ++ Sj ++ S2, ?_, rfl, ?_⟩
    · rw [List.length_set]
      exact owns_kept ho fun k hk => same k (by simp [obk] at hk; simp [hk])
    · exact hput w' e' v hv' fun k hk => same k (by simp at hk ⊢; exact .inr hk)
end
theorem exR_row {tE : Nat} {w : World} {oa : Option Addr} {cap : Nat} {es : List Ex} {S : List Nat} : ExR tE w oa cap es S ↔ RowT (ExS tE) tE 6 w oa cap es S := by
  simp only [ExR, RowT, exSs_row]
theorem smR_row {tE tS : Nat} {w : World} {oa : Option Addr} {cap : Nat} {es : List Sm} {S : List Nat} : SmR tE tS w oa cap es S ↔ RowT (SmS tE tS) tS 7 w oa cap es S := by
  simp only [SmR, RowT, smSs_row]
theorem thR_row {tE tS tD tT : Nat} {w : World} {oa : Option Addr} {cap : Nat} {es : List Th} {S : List Nat} : ThR tE tS tD tT w oa cap es S ↔ RowT (ThS tE tS tD) tT 4 w oa cap es S := by
  simp only [ThR, RowT, thSs_row]

section
variable {w0 w w' : World} {M : List Nat} {hs : List Res}
variable {P : Program} {n : Fr} {L : List Oper} {Q : Exit → Act → World → Prop} {kn : Kn} {N : Act → World → Prop}
variable {d ty : Nat} {pos : String} {aft : Array Edge} {g : Option (Nat × Bool)}
/-- a store into a tree that is held -/
theorem e_stT (st : St w0 M hs w) (i : Nat) {x y : Operand} {T b off : Nat} {v : Value} {S : List Nat} {φ ψ : World → Prop} (hw : gd L kn g = some true) (hx : evO kn x = some (.pointer (some ⟨b, off, none⟩)))
    (hy : evO kn y = some v) (h1 : v.oneCell' = true) (hsz : ∀ w, (Go.sizeOf T).run P w = .ok 1 w) (hi : nth hs i = some (.tree S φ)) (hb : b ∈ S) (hm : b ∈ M ∨ w0.heap.size ≤ b)
    (hc : ∃ u, w.cell? ⟨b, off, none⟩ = some u) (hf : w.frozen? ⟨b, off, none⟩ = false) (hψ : ψ (w.setCell ⟨b, off, none⟩ v)) (hψl : Loc S ψ)
    (next : ∀ w', St w0 M (setNth hs i (.tree S ψ)) w' → vN n N kn w') : vS P n L Q (⟨none, .store T x y, ty, pos, aft, g⟩) N kn w := by
  obtain ⟨u, hc⟩ := hc
  have hcs : v.cells = #[v] := by cases v <;> first | rfl | (simp [Value.oneCell'] at h1)
  have hc9 := Chg.setCell w ⟨b, off, none⟩ v
  have hlt : ∀ k ∈ S, k < w.heap.size := (st.res hi).2.1
  refine e_do hw rfl (w' := w.setCell ⟨b, off, none⟩ v) (fun a ha => ?_) (next _ (st.swap hi hc9 (fun k hk => by simp at hk; subst hk; exact hb) (fun k hk => by simp at hk; subst hk; exact hm) (fun k hk => .inl hk) ⟨hψ, fun k hk => Nat.lt_of_lt_of_le (hlt k hk) hc9.size, hψl⟩))
  simp only [execOp, ha.ev hx, ha.ev hy]
  have hst : (store ⟨b, off, none⟩ v).run P w = .ok () (w.setCell ⟨b, off, none⟩ v) := by
    cases v <;> first | (simp [Value.oneCell'] at h1; done) | simp [store, Sem.run, hc, hf]
  have key : (storeVar T ⟨b, off, none⟩ v).run P w = .ok () (w.setCell ⟨b, off, none⟩ v) := by
    simp only [storeVar, Sem.run_bind, hsz, Result.andThen_ok, hcs]
    simp [storeCells, addr_add0, hst]
  simp only [Instr.storeAt, Instr.sureAddr, Sem.run_bind, Sem.run_pure, Result.andThen_ok, key]
end
end Sx


/- The engine, twenty-third part: the rows of the language's trees, one of a row written over. -/
namespace Sx
open Go Go.RowKit
def Ex.setNm (s : List UInt8) : Ex → Ex | .mk k op wd _ kids a => .mk k op wd s kids a
def Ex.setAt (a : Int) : Ex → Ex | .mk k op wd nm kids _ => .mk k op wd nm kids a
def Ex.setKids (kids : List Ex) : Ex → Ex | .mk k op wd nm _ a => .mk k op wd nm kids a
def Sm.setNm (s : List UInt8) : Sm → Sm | .mk k _ o e b l a => .mk k s o e b l a
def Sm.setOther (s : List UInt8) : Sm → Sm | .mk k n _ e b l a => .mk k n s e b l a
def Sm.setE (x : List Ex) : Sm → Sm | .mk k n o _ b l a => .mk k n o x b l a
def Sm.setBody (x : List Sm) : Sm → Sm | .mk k n o e _ l a => .mk k n o e x l a
def Sm.setEls (x : List Sm) : Sm → Sm | .mk k n o e b _ a => .mk k n o e b x a
def Sm.setAt (a : Int) : Sm → Sm | .mk k n o e b l _ => .mk k n o e b l a
def Th.setNm (s : List UInt8) (t : Th) : Th := { t with nm := s }
def Th.setAt (a : Int) (t : Th) : Th := { t with a := a }
def Th.setLocals (l : List Dc) (t : Th) : Th := { t with locals := l }
def Th.setBody (b : List Sm) (t : Th) : Th := { t with body := b }
section
variable {tE tS tD tT : Nat} {w w' : World}
/-- what a row's block is: it is there, not frozen, and of the tree -/
structure RowAt (w : World) (b : Nat) (S : List Nat) : Prop where
  mem : b ∈ S
  lt : b < w.heap.size
  fz : ∀ i, w.frozen? ⟨b, i, none⟩ = false
/-! ### expressions -/
theorem exR_focus {oa : Option Addr} {cap : Nat} {es : List Ex} {S : List Nat} {j : Nat} {e : Ex} (h : ExR tE w oa cap es S) (hS : S.Nodup) (hj : es[j]? = some e) :
    ∃ b o c Sj, oa = some ⟨b, 0, none⟩ ∧ RowAt w b S ∧ (∀ i u, ([.int .u8 e.k, .int .u8 e.op, .int .i64 e.wd, str e.nm, .slice o e.kids.length c, .int .i64 e.a] : List Value)[i]? = some u → w.cell? ⟨b, j * 6 + i, none⟩ = some u) ∧ ExR tE w o c e.kids Sj ∧ Sj.Nodup ∧ (∀ k ∈ Sj, k ∈ S) ∧
      (∀ s, ExR tE (w.setCell ⟨b, j * 6 + 3, none⟩ (str s)) oa cap (es.set j (e.setNm s)) S) ∧ (∀ a, ExR tE (w.setCell ⟨b, j * 6 + 5, none⟩ (.int .i64 a)) oa cap (es.set j (e.setAt a)) S) ∧
      (∀ (w' : World) kids, kids.length = e.kids.length → ExR tE w' o c kids Sj → Chg Sj w w' → ExR tE w' oa cap (es.set j (e.setKids kids)) S) := by
  have hlt : ∀ k ∈ S, k < w.heap.size := h.lt
  obtain ⟨b, v, Sj, S1, S2, ho, hbl, hSe, hv, hcell, hfz, hset, hsub⟩ := RowT.focus (V := ExS tE) (by omega) (fun w x v S h => h.len) (fun w w' x v S h hk => h.kept hk) (exR_row.1 h) hS hj
  obtain ⟨o, c, rfl, hk⟩ := ExS_iff.1 hv
  subst hSe
  have hSj : Sj.Nodup := by
    have := (List.nodup_append.1 hS).2.1
    exact (List.nodup_append.1 (List.nodup_append.1 this).1).2.1
  refine ⟨b, o, c, Sj, ho, ⟨by simp, hbl, hfz⟩, hcell, hk, hSj, fun k hk => by simp [hk], fun s => ?_, fun a => ?_, fun w' kids hl hk' hc => ?_⟩
  · refine exR_row.2 (hset 3 _ _ (by omega) (ExS_iff.2 ?_))
    cases e; exact ⟨o, c, rfl, hk⟩
  · refine exR_row.2 (hset 5 _ _ (by omega) (ExS_iff.2 ?_))
    cases e; exact ⟨o, c, rfl, hk⟩
  · refine exR_row.2 (hsub w' _ (ExS_iff.2 ?_) hc.size (fun k hk hn => hc.block k hk hn) hlt)
    cases e with
    | mk k op wd nm ks a =>
      simp only [Ex.kids] at hl
      refine ⟨o, c, ?_, hk'⟩
      simp only [Ex.setKids, Ex.k, Ex.op, Ex.wd, Ex.nm, Ex.kids, Ex.a, hl]
/-! ### statements -/
theorem smR_focus {oa : Option Addr} {cap : Nat} {es : List Sm} {S : List Nat} {j : Nat} {e : Sm} (h : SmR tE tS w oa cap es S) (hS : S.Nodup) (hj : es[j]? = some e) :
    ∃ b oe ce ob cb ol cl Se Sb Sl, oa = some ⟨b, 0, none⟩ ∧ RowAt w b S ∧ (∀ i u, ([.int .u8 e.k, str e.nm, str e.other, .slice oe e.e.length ce, .slice ob e.body.length cb, .slice ol e.els.length cl, .int .i64 e.a] : List Value)[i]? = some u → w.cell? ⟨b, j * 7 + i, none⟩ = some u) ∧
      ExR tE w oe ce e.e Se ∧ SmR tE tS w ob cb e.body Sb ∧ SmR tE tS w ol cl e.els Sl ∧ Se.Nodup ∧ Sb.Nodup ∧ Sl.Nodup ∧ (∀ k ∈ Se, k ∈ S) ∧ (∀ k ∈ Sb, k ∈ S) ∧ (∀ k ∈ Sl, k ∈ S) ∧
      (∀ s, SmR tE tS (w.setCell ⟨b, j * 7 + 1, none⟩ (str s)) oa cap (es.set j (e.setNm s)) S) ∧ (∀ s, SmR tE tS (w.setCell ⟨b, j * 7 + 2, none⟩ (str s)) oa cap (es.set j (e.setOther s)) S) ∧ (∀ a, SmR tE tS (w.setCell ⟨b, j * 7 + 6, none⟩ (.int .i64 a)) oa cap (es.set j (e.setAt a)) S) ∧
      (∀ (w' : World) x, x.length = e.e.length → ExR tE w' oe ce x Se → Chg Se w w' → SmR tE tS w' oa cap (es.set j (e.setE x)) S) ∧
      (∀ (w' : World) x, x.length = e.body.length → SmR tE tS w' ob cb x Sb → Chg Sb w w' → SmR tE tS w' oa cap (es.set j (e.setBody x)) S) ∧
      (∀ (w' : World) x, x.length = e.els.length → SmR tE tS w' ol cl x Sl → Chg Sl w w' → SmR tE tS w' oa cap (es.set j (e.setEls x)) S) := by
  have hlt : ∀ k ∈ S, k < w.heap.size := h.lt
  obtain ⟨b, v, Sj, S1, S2, ho, hbl, hSe, hv, hcell, hfz, hset, hsub⟩ := RowT.focus (V := SmS tE tS) (by omega) (fun w x v S h => h.len) (fun w w' x v S h hk => h.kept hk) (smR_row.1 h) hS hj
  obtain ⟨oe, ce, ob, cb, ol, cl, Se, Sb, Sl, rfl, he, hb, hl, rfl⟩ := SmS_iff.1 hv
  subst hSe
  have hn1 := (List.nodup_append.1 (List.nodup_append.1 (List.nodup_append.1 hS).2.1).1).2.1
  obtain ⟨ne, hn2, d1⟩ := List.nodup_append.1 hn1
  obtain ⟨nb, nl, d2⟩ := List.nodup_append.1 hn2
  have len2 : ∀ {A B : List Nat}, (∀ a ∈ A, ∀ b ∈ B, a ≠ b) → ∀ k ∈ B, k ∉ A := fun h k hk hk' => h k hk' k hk rfl
  refine ⟨b, oe, ce, ob, cb, ol, cl, Se, Sb, Sl, ho, ⟨by simp, hbl, hfz⟩, hcell, he, hb, hl, ne, nb, nl, fun k hk => by simp [hk], fun k hk => by simp [hk], fun k hk => by simp [hk], fun s => ?_, fun s => ?_, fun a => ?_, fun w' x hx hx' hc => ?_, fun w' x hx hx' hc => ?_, fun w' x hx hx' hc => ?_⟩
  · refine smR_row.2 (hset 1 _ _ (by omega) (SmS_iff.2 ?_))
    cases e; exact ⟨oe, ce, ob, cb, ol, cl, Se, Sb, Sl, rfl, he, hb, hl, rfl⟩
  · refine smR_row.2 (hset 2 _ _ (by omega) (SmS_iff.2 ?_))
    cases e; exact ⟨oe, ce, ob, cb, ol, cl, Se, Sb, Sl, rfl, he, hb, hl, rfl⟩
  · refine smR_row.2 (hset 6 _ _ (by omega) (SmS_iff.2 ?_))
    cases e; exact ⟨oe, ce, ob, cb, ol, cl, Se, Sb, Sl, rfl, he, hb, hl, rfl⟩
  · have hb' := hb.kept (w' := w') fun k hk => hc.block k (hb.lt k hk) (fun hk' => d1 k hk' k (by simp [hk]) rfl)
    have hl' := hl.kept (w' := w') fun k hk => hc.block k (hl.lt k hk) (fun hk' => d1 k hk' k (by simp [hk]) rfl)
    refine smR_row.2 (hsub w' _ (SmS_iff.2 ?_) hc.size (fun k hk hn => hc.block k hk (fun h => hn (by simp [h]))) hlt)
    cases e with
    | mk k nm other xe bd el a =>
      simp only [Sm.e] at hx
      refine ⟨oe, ce, ob, cb, ol, cl, Se, Sb, Sl, ?_, hx', hb', hl', rfl⟩
      simp only [Sm.setE, Sm.k, Sm.nm, Sm.other, Sm.e, Sm.body, Sm.els, Sm.a, hx]
  · have he' := he.kept (w' := w') fun k hk => hc.block k (he.lt k hk) (fun hk' => d1 k hk k (by simp [hk']) rfl)
    have hl' := hl.kept (w' := w') fun k hk => hc.block k (hl.lt k hk) (fun hk' => d2 k hk' k hk rfl)
    refine smR_row.2 (hsub w' _ (SmS_iff.2 ?_) hc.size (fun k hk hn => hc.block k hk (fun h => hn (by simp [h]))) hlt)
    cases e with
    | mk k nm other xe bd el a =>
      simp only [Sm.body] at hx
      refine ⟨oe, ce, ob, cb, ol, cl, Se, Sb, Sl, ?_, he', hx', hl', rfl⟩
      simp only [Sm.setBody, Sm.k, Sm.nm, Sm.other, Sm.e, Sm.body, Sm.els, Sm.a, hx]
  · have he' := he.kept (w' := w') fun k hk => hc.block k (he.lt k hk) (fun hk' => d1 k hk k (by simp [hk']) rfl)
    have hb' := hb.kept (w' := w') fun k hk => hc.block k (hb.lt k hk) (fun hk' => d2 k hk k hk' rfl)
    refine smR_row.2 (hsub w' _ (SmS_iff.2 ?_) hc.size (fun k hk hn => hc.block k hk (fun h => hn (by simp [h]))) hlt)
    cases e with
    | mk k nm other xe bd el a =>
      simp only [Sm.els] at hx
      refine ⟨oe, ce, ob, cb, ol, cl, Se, Sb, Sl, ?_, he', hb', hx', rfl⟩
      simp only [Sm.setEls, Sm.k, Sm.nm, Sm.other, Sm.e, Sm.body, Sm.els, Sm.a, hx]
/-! ### threads -/
theorem thR_focus {oa : Option Addr} {cap : Nat} {es : List Th} {S : List Nat} {j : Nat} {e : Th} (h : ThR tE tS tD tT w oa cap es S) (hS : S.Nodup) (hj : es[j]? = some e) :
    ∃ b ol cl ob cb Sl Sb, oa = some ⟨b, 0, none⟩ ∧ RowAt w b S ∧ (∀ i u, ([str e.nm, .slice ol e.locals.length cl, .slice ob e.body.length cb, .int .i64 e.a] : List Value)[i]? = some u → w.cell? ⟨b, j * 4 + i, none⟩ = some u) ∧
      DcR tD w ol cl e.locals Sl ∧ SmR tE tS w ob cb e.body Sb ∧ Sl.Nodup ∧ Sb.Nodup ∧ (∀ k ∈ Sl, k ∈ S) ∧ (∀ k ∈ Sb, k ∈ S) ∧
      (∀ s, ThR tE tS tD tT (w.setCell ⟨b, j * 4 + 0, none⟩ (str s)) oa cap (es.set j (e.setNm s)) S) ∧ (∀ a, ThR tE tS tD tT (w.setCell ⟨b, j * 4 + 3, none⟩ (.int .i64 a)) oa cap (es.set j (e.setAt a)) S) ∧
      (∀ (w' : World) x, x.length = e.locals.length → DcR tD w' ol cl x Sl → Chg Sl w w' → ThR tE tS tD tT w' oa cap (es.set j (e.setLocals x)) S) ∧
      (∀ (w' : World) x, x.length = e.body.length → SmR tE tS w' ob cb x Sb → Chg Sb w w' → ThR tE tS tD tT w' oa cap (es.set j (e.setBody x)) S) := by
  have hlt : ∀ k ∈ S, k < w.heap.size := h.lt
  obtain ⟨b, v, Sj, S1, S2, ho, hbl, hSe, hv, hcell, hfz, hset, hsub⟩ := RowT.focus (V := ThS tE tS tD) (by omega) (fun w x v S h => h.len) (fun w w' x v S h hk => h.kept hk) (thR_row.1 h) hS hj
  obtain ⟨ol, cl, ob, cb, Sl, Sb, rfl, hl, hb, rfl⟩ := hv
  subst hSe
  have hn1 := (List.nodup_append.1 (List.nodup_append.1 (List.nodup_append.1 hS).2.1).1).2.1
  obtain ⟨nl, nb, d1⟩ := List.nodup_append.1 hn1
  refine ⟨b, ol, cl, ob, cb, Sl, Sb, ho, ⟨by simp, hbl, hfz⟩, hcell, hl, hb, nl, nb, fun k hk => by simp [hk], fun k hk => by simp [hk], fun s => ?_, fun a => ?_, fun w' x hx hx' hc => ?_, fun w' x hx hx' hc => ?_⟩
  · exact thR_row.2 (hset 0 _ _ (by omega) ⟨ol, cl, ob, cb, Sl, Sb, rfl, hl, hb, rfl⟩)
  · exact thR_row.2 (hset 3 _ _ (by omega) ⟨ol, cl, ob, cb, Sl, Sb, rfl, hl, hb, rfl⟩)
  · have hb' := hb.kept (w' := w') fun k hk => hc.block k (hb.lt k hk) (fun hk' => d1 k hk' k hk rfl)
    refine thR_row.2 (hsub w' (e.setLocals x) ⟨ol, cl, ob, cb, Sl, Sb, ?_, hx', hb', rfl⟩ hc.size (fun k hk hn => hc.block k hk (fun h => hn (by simp [h]))) hlt)
    simp only [Th.setLocals, hx]
  · have hl' := hl.kept (w' := w') fun k hk => hc.block k (hl.lt k hk) (fun hk' => d1 k hk k hk' rfl)
    refine thR_row.2 (hsub w' (e.setBody x) ⟨ol, cl, ob, cb, Sl, Sb, ?_, hl', hx', rfl⟩ hc.size (fun k hk hn => hc.block k hk (fun h => hn (by simp [h]))) hlt)
    simp only [Th.setBody, hx]
/-! ### declarations -/
theorem dcs_set {ds : List Dc} {j i : Nat} {d : Dc} {u : Value} {d' : Dc} (hj : ds[j]? = some d) (hi : i < 3) (he : (dcL d).set i u = dcL d') : (ds.flatMap dcL).set (j * 3 + i) u = (ds.set j d').flatMap dcL := by
  induction ds generalizing j with
  | nil => simp at hj
  | cons x r ih =>
    rw [List.flatMap_cons]
    have h3 : (dcL x).length = 3 := rfl
    cases j with
    | zero =>
      simp only [List.getElem?_cons_zero, Option.some.injEq] at hj
      subst hj
      rw [show 0 * 3 + i = i by omega, List.set_append_left _ _ (by omega), he]; rfl
    | succ j =>
      rw [show (j + 1) * 3 + i = (dcL x).length + (j * 3 + i) by omega, List.set_append_right _ _ (by omega), Nat.add_sub_cancel_left, ih (by simpa using hj)]; rfl
theorem dcR_focus {oa : Option Addr} {cap : Nat} {es : List Dc} {S : List Nat} {j : Nat} {e : Dc} (h : DcR tD w oa cap es S) (hj : es[j]? = some e) :
    ∃ b, oa = some ⟨b, 0, none⟩ ∧ RowAt w b S ∧ (∀ i u, (dcL e)[i]? = some u → w.cell? ⟨b, j * 3 + i, none⟩ = some u) ∧
      (∀ s, DcR tD (w.setCell ⟨b, j * 3 + 0, none⟩ (str s)) oa cap (es.set j { e with nm := s }) S) ∧ (∀ a, DcR tD (w.setCell ⟨b, j * 3 + 2, none⟩ (.int .i64 a)) oa cap (es.set j { e with a := a }) S) := by
  obtain ⟨ho, rfl⟩ := h
  have hjl := (List.getElem?_eq_some_iff.1 hj).1
  obtain ⟨b, c, e0, -⟩ := own_form ho (by omega)
  simp only [Value.slice.injEq] at e0
  obtain ⟨rfl, -, rfl⟩ := e0
  have put : ∀ (i : Nat) (u : Value) (e' : Dc), i < 3 → (dcL e).set i u = dcL e' → DcR tD (w.setCell ⟨b, j * 3 + i, none⟩ u) (some ⟨b, 0, none⟩) cap (es.set j e') (obk (some ⟨b, 0, none⟩)) := fun i u e' hi he => by
    have hst := (World.ownsRow.stored ho (j * 3 + i) u).1
    rw [dcs_set hj hi he] at hst
    refine ⟨?_, rfl⟩
    rw [List.length_set]; exact hst
  refine ⟨b, rfl, ⟨by simp [obk], (owns_lt ho b (by simp [obk])).2, fun i => World.ownsRow.frozenAt ho i⟩, fun i u hi => ?_, fun s => put 0 _ _ (by omega) rfl, fun a => put 2 _ _ (by omega) rfl⟩
  have hr := rowC_own (S := fun _ => True) ho (fun _ _ => trivial)
  rcases hr with h0 | ⟨b', off, e1, -, -, hc⟩
  · omega
  · simp only [Option.some.injEq, Addr.mk.injEq, and_true] at e1
    obtain ⟨rfl, rfl⟩ := e1
    have := (hc j hjl).2 i u (by dsimp only; rw [dcs_chunk hj]; exact hi)
    rwa [Nat.zero_add] at this
end
/-- a tree that may be written over, and what is read beside it -/
theorem St.two {w : World} {S E : List Nat} {φ ψ : World → Prop} (h1 : φ w) (h2 : ψ w) (l1 : ∀ b ∈ S, b < w.heap.size) (l2 : ∀ b ∈ E, b < w.heap.size) (k1 : Sx.Loc S φ) (k2 : Sx.Loc E ψ) (hd : ∀ b ∈ S, b ∉ E) : St w S [.tree S φ, .tree E ψ] w :=
  ⟨Chg.refl _ _, List.pairwise_cons.2 ⟨fun x hx k hk hk' => by
    simp only [List.mem_singleton] at hx
    subst hx
    exact hd k hk hk', List.pairwise_singleton _ _⟩, by
    intro r hr
    simp only [List.mem_cons, List.not_mem_nil, or_false] at hr
    rcases hr with rfl | rfl
    · exact ⟨h1, l1, k1⟩
    · exact ⟨h2, l2, k2⟩⟩
/-- a callee has turned a tree within the tree at 0 -/
theorem St.within {w0 w w' : World} {M S Sj : List Nat} {hs : List Res} {φ ψ : World → Prop} (st : St w0 M (.tree S φ :: hs) w) (c : Chg Sj w w') (hj : ∀ k ∈ Sj, k ∈ S) (hM : ∀ k ∈ S, k ∈ M ∨ w0.heap.size ≤ k) (hψ : ψ w') (hl : Sx.Loc S ψ) : St w0 M (.tree S ψ :: hs) w' := by
  have h := st.res (i := 0) rfl
  exact st.swap (i := 0) (r' := .tree S ψ) rfl c hj (fun k hk => hM k (hj k hk)) (fun k hk => .inl hk) ⟨hψ, fun k hk => Nat.lt_of_lt_of_le (h.2.1 k hk) c.size, hl⟩
/-- a callee has turned a tree within the tree at 'i' -/
theorem St.withinI {w0 w w' : World} {M S Sj : List Nat} {hs : List Res} {φ : World → Prop} (st : St w0 M hs w) {i : Nat} (ψ : World → Prop) (hi : nth hs i = some (.tree S φ)) (c : Chg Sj w w') (hj : ∀ k ∈ Sj, k ∈ S) (hM : ∀ k ∈ S, k ∈ M ∨ w0.heap.size ≤ k) (hψ : ψ w') (hl : Sx.Loc S ψ) : St w0 M (setNth hs i (.tree S ψ)) w' := by
  have h := st.res hi
  exact st.swap (r' := .tree S ψ) hi c hj (fun k hk => hM k (hj k hk)) (fun k hk => .inl hk) ⟨hψ, fun k hk => Nat.lt_of_lt_of_le (h.2.1 k hk) c.size, hl⟩
/-- a tree falls in two -/
theorem St.split {w0 w : World} {M S T : List Nat} {hs : List Res} {χ φ ψ : World → Prop} (st : St w0 M (.tree (S ++ T) χ :: hs) w) (hn : (S ++ T).Nodup) (h1 : φ w) (h2 : ψ w) (k1 : Sx.Loc S φ) (k2 : Sx.Loc T ψ) : St w0 M (.tree S φ :: .tree T ψ :: hs) w := by
  have h := st.res (i := 0) rfl
  have hnd := List.pairwise_cons.1 st.nodup
  refine ⟨st.chg, List.pairwise_cons.2 ⟨fun x hx => ?_, List.pairwise_cons.2 ⟨fun x hx k hk => hnd.1 x hx k (List.mem_append.2 (.inr hk)), hnd.2⟩⟩, fun x hx => ?_⟩
  · rcases List.mem_cons.1 hx with rfl | hx
    · exact fun k hk hk' => (List.nodup_append.1 hn).2.2 k hk k hk' rfl
    · exact fun k hk => hnd.1 x hx k (List.mem_append.2 (.inl hk))
  · rcases List.mem_cons.1 hx with rfl | hx
    · exact ⟨h1, fun k hk => h.2.1 k (List.mem_append.2 (.inl hk)), k1⟩
    · rcases List.mem_cons.1 hx with rfl | hx
      · exact ⟨h2, fun k hk => h.2.1 k (List.mem_append.2 (.inr hk)), k2⟩
      · exact st.here x (.tail _ hx)
end Sx


/- A map that counts words: its keys in the order of their birth; a range over it. -/
namespace Sx
open Go Go.RowKit

abbrev Wd := List UInt8
def insK (s : Wd) (ks : List Wd) : List Wd := if s ∈ ks then ks else ks ++ [s]
/-- what the entries of such a map are -/
structure Ents (es : List MapEntry) (ks : List Wd) : Prop where
  key : es.map (·.key) = ks.map str
  val : ∀ e ∈ es, ∃ c, e.val = .int .i64 c
  born : ∀ (i : Nat) (e : MapEntry), es[i]? = some e → e.born = i

def MapK (w : World) (b : Nat) (ks : List Wd) : Prop := ∃ es : Array MapEntry, w.heap[b]? = some (.map es es.size) ∧ Ents es.toList ks

theorem MapK.lt {w : World} {b : Nat} {ks : List Wd} (h : MapK w b ks) : b < w.heap.size := by obtain ⟨es, h1, _⟩ := h; exact (Array.getElem?_eq_some_iff.1 h1).1
theorem Loc_MapK (b : Nat) (ks : List Wd) : Loc [b] (fun w => MapK w b ks) := fun w w' _ hk ⟨es, h1, h2⟩ => ⟨es, (hk b (by simp)).trans h1, h2⟩

theorem bytes_beq (s t : Wd) : ((⟨s.toArray⟩ : ByteArray) == ⟨t.toArray⟩) = decide (s = t) := by
  show (s.toArray == t.toArray) = _
  rw [Bool.eq_iff_iff]; simp

theorem findNow_no {s : Wd} : ∀ (es : List MapEntry) (ks : List Wd) (i : Nat), es.map (·.key) = ks.map str → s ∉ ks → Instr.findNow .string (str s) es i = some none
  | [], ks, i, h, hs => rfl
  | e :: es, [], i, h, hs => by simp at h
  | e :: es, k :: ks, i, h, hs => by
    simp only [List.map_cons, List.cons.injEq] at h
    simp only [Instr.findNow, h.1, Instr.sameNow, bytes_beq]
    have : s ≠ k := fun e => hs (by simp [e])
    simp only [this, decide_false]
    exact findNow_no es ks _ h.2 (fun h => hs (by simp [h]))
theorem findNow_yes {s : Wd} : ∀ (es : List MapEntry) (ks : List Wd) (i : Nat), es.map (·.key) = ks.map str → s ∈ ks → ∃ j e, es[j]? = some e ∧ e.key = str s ∧ Instr.findNow .string (str s) es i = some (some (i + j, e.val))
  | [], ks, i, h, hs => by cases ks <;> simp at h hs
  | e :: es, [], i, h, hs => by simp at h
  | e :: es, k :: ks, i, h, hs => by
    simp only [List.map_cons, List.cons.injEq] at h
    by_cases hk : s = k
    · subst hk
      exact ⟨0, e, rfl, h.1, by simp [Instr.findNow, h.1, Instr.sameNow, bytes_beq]⟩
    · obtain ⟨j, e', h1, h2, h3⟩ := findNow_yes es ks (i + 1) h.2 (by simpa [hk] using hs)
      refine ⟨j + 1, e', by simpa using h1, h2, ?_⟩
      simp only [Instr.findNow, h.1, Instr.sameNow, bytes_beq, hk, decide_false]
      rw [h3, Nat.add_assoc, Nat.add_comm 1 j]

section
variable {P : Program} {n : Fr} {L : List Oper} {Q : Exit → Act → World → Prop} {kn : Kn} {w0 w : World} {M : List Nat} {hs : List Res} {N : Act → World → Prop}
variable {d ty : Nat} {pos : String} {aft : Array Edge} {g : Option (Nat × Bool)}

theorem checkKey_str {k : Nat} (hk : P.underlying k = some .string) (em : Bool) (s : Wd) (w : World) : (Instr.checkKey em 10000 k (str s)).run P w = .ok () w := by
  show (Instr.checkKey em (9999 + 1) k (str s)).run P w = _
  unfold Instr.checkKey
  simp [Sem.run_bind, underlying, Sem.run, hk, Result.andThen, str]

theorem findKey_str {k : Nat} (hk : P.underlying k = some .string) {s : Wd} {es : List MapEntry} {r : Option (Nat × Value)} (h : Instr.findNow .string (str s) es 0 = some r) (w : World) : (Instr.findKey k (str s) es).run P w = .ok r w := by
  simp [Instr.findKey, Sem.run_bind, underlying, Sem.run, hk, Result.andThen, h]

theorem run_lookupK {T k e b : Nat} {s : Wd} {ks : List Wd} (hm : MapK w b ks) (ht : P.underlying T = some (.map k e)) (hk : P.underlying k = some .string) (hz : ∀ w, (zeroValue e).run P w = .ok (.int .i64 0) w) :
    ∃ c, (Instr.lookup T (.map (some b)) (str s) false).run P w = .ok (.int .i64 c) w := by
  obtain ⟨es, hb, hE⟩ := hm
  by_cases hs : s ∈ ks
  · obtain ⟨j, e', h1, h2, h3⟩ := findNow_yes (s := s) es.toList ks 0 hE.key hs
    obtain ⟨c, hc⟩ := hE.val e' (List.mem_of_getElem? h1)
    refine ⟨c, ?_⟩
    simp [Instr.lookup, getObj, Sem.run_bind, underlying, Sem.run, ht, hb, Result.andThen, checkKey_str hk, findKey_str hk h3, hc]
  · refine ⟨0, ?_⟩
    simp [Instr.lookup, getObj, Sem.run_bind, underlying, Sem.run, ht, hb, Result.andThen, checkKey_str hk, findKey_str hk (findNow_no es.toList ks 0 hE.key hs), hz]

theorem setObj_chg {b : Nat} {o o' : Obj} (hb : w.heap[b]? = some o) (hn : ∀ c e f, o ≠ .cells c e f) : (setObj b o').run P w = .ok () (ChangeMaps.setBlock w b o') ∧ Chg [b] w (ChangeMaps.setBlock w b o') ∧ (ChangeMaps.setBlock w b o').heap[b]? = some o' := by
  have hlt := (Array.getElem?_eq_some_iff.1 hb).1
  refine ⟨?_, ⟨rfl, rfl, rfl, by simp [ChangeMaps.setBlock], fun i _ hi => ?_⟩, ?_⟩
  · simp only [setObj, Sem.run, hb, ChangeMaps.setBlock]
    try (cases o <;> first | rfl | exact absurd rfl (hn _ _ _))
  · simp only [ChangeMaps.setBlock]; rw [Array.getElem?_setIfInBounds_ne (fun e => hi (by simp [e]))]
  · simp only [ChangeMaps.setBlock]; rw [Array.getElem?_setIfInBounds_self_of_lt hlt]

theorem run_updateK {T k e b : Nat} {s : Wd} {c : Int} {ks : List Wd} (hm : MapK w b ks) (ht : P.underlying T = some (.map k e)) (hk : P.underlying k = some .string) :
    ∃ w', (Instr.mapUpdate T (.map (some b)) (str s) (.int .i64 c)).run P w = .ok () w' ∧ MapK w' b (insK s ks) ∧ Chg [b] w w' := by
  obtain ⟨es, hb, hE⟩ := hm
  by_cases hs : s ∈ ks
  · obtain ⟨j, e', h1, h2, h3⟩ := findNow_yes (s := s) es.toList ks 0 hE.key hs
    obtain ⟨q1, q2, q3⟩ := setObj_chg (P := P) (o' := .map (es.modify j fun x => { x with key := str s, val := .int .i64 c }) es.size) hb (by simp)
    refine ⟨_, ?_, ⟨es.modify j fun x => { x with key := str s, val := .int .i64 c }, (by rw [q3]; simp), ?_⟩, q2⟩
    · have hg : es[j]? = some e' := by simpa using h1
      simp only [Nat.zero_add] at h3
      simp [Instr.mapUpdate, getObj, Sem.run_bind, underlying, Sem.run, ht, hb, Result.andThen, checkKey_str hk, findKey_str hk h3, hg, h2, Instr.keyThatStays, Instr.sameBits, str, bytes_beq]
      exact q1
    · simp only [insK, hs, if_true]
      have hl : (es.modify j fun x => { x with key := str s, val := .int .i64 c }).toList = es.toList.modify j (fun x => { x with key := str s, val := .int .i64 c }) := by simp
      rw [hl]
      refine ⟨?_, ?_, ?_⟩
      · rw [← hE.key]
        apply List.ext_getElem?
        intro i
        simp only [List.getElem?_map, List.getElem?_modify]
        by_cases hij : j = i
        · subst hij; rw [h1]; simp [h2]
        · simp [hij]
      · intro x hx
        obtain ⟨i, hi⟩ := List.getElem?_of_mem hx
        rw [List.getElem?_modify] at hi
        by_cases hij : j = i
        · subst hij; rw [h1] at hi; simp at hi; exact ⟨c, by rw [← hi]⟩
        · simp only [hij, if_false, Option.map_id_fun', id] at hi; exact hE.val x (List.mem_of_getElem? (by simpa using hi))
      · intro i x hi
        rw [List.getElem?_modify] at hi
        by_cases hij : j = i
        · subst hij; rw [h1] at hi; simp at hi; rw [← hi]; exact (hE.born j e' h1 : e'.born = j)
        · simp only [hij, if_false, Option.map_id_fun', id] at hi; exact hE.born i x (by simpa using hi)
  · obtain ⟨q1, q2, q3⟩ := setObj_chg (P := P) (o' := .map (es.push { key := str s, val := .int .i64 c, born := es.size }) (es.size + 1)) hb (by simp)
    refine ⟨_, ?_, ⟨es.push { key := str s, val := .int .i64 c, born := es.size }, (by rw [q3]; simp), ?_⟩, q2⟩
    · simp [Instr.mapUpdate, getObj, Sem.run_bind, underlying, Sem.run, ht, hb, Result.andThen, checkKey_str hk, findKey_str hk (findNow_no es.toList ks 0 hE.key hs)]
      exact q1
    · simp only [insK, hs, if_false, Array.toList_push]
      refine ⟨by simp [hE.key], ?_, ?_⟩
      · intro x hx
        rcases List.mem_append.1 hx with h | h
        · exact hE.val x h
        · simp at h; exact ⟨c, by rw [h]⟩
      · intro i x hi
        rcases Nat.lt_or_ge i es.toList.length with h | h
        · rw [List.getElem?_append_left h] at hi; exact hE.born i x hi
        · rw [List.getElem?_append_right h] at hi
          cases hd : i - es.toList.length with
          | zero => rw [hd] at hi; simp at hi; rw [← hi]; simp at h hd ⊢; omega
          | succ m => rw [hd] at hi; simp at hi

/-! ## the range -/
/-- a range over the map of 'b' by the iterator 'r': the words 'dn' have come -/
def IterK (w : World) (b r : Nat) (ks dn : List Wd) : Prop := ∃ (es : Array MapEntry) (seen : Array Nat), w.heap[b]? = some (.map es es.size) ∧ Ents es.toList ks ∧ w.heap[r]? = some (.mapIter (some b) es.size seen es.size) ∧
  seen.toList.Nodup ∧ seen.toList.map (fun i => ks[i]?) = dn.map some

theorem Loc_IterK (b r : Nat) (ks dn : List Wd) : Loc [b, r] (fun w => IterK w b r ks dn) := fun w w' _ hk ⟨es, seen, h1, h2, h3, h4⟩ => ⟨es, seen, (hk b (by simp)).trans h1, h2, (hk r (by simp)).trans h3, h4⟩
theorem run_rangeK {T k e b : Nat} {ks : List Wd} (hm : MapK w b ks) (ht : P.underlying T = some (.map k e)) :
    ∃ w', (Instr.range T (.map (some b))).run P w = .ok (.pointer (some ⟨w.heap.size, 0, none⟩)) w' ∧ IterK w' b w.heap.size ks [] ∧ Chg [] w w' ∧ w'.heap.size = w.heap.size + 1 := by
  obtain ⟨es, hb, hE⟩ := hm
  have hlt := (Array.getElem?_eq_some_iff.1 hb).1
  refine ⟨w.alloc (.mapIter (some b) es.size #[] es.size), ?_, ⟨es, #[], ?_, hE, heap_alloc w _, by simp, by simp⟩, Chg.alloc w _, by simp⟩
  · have h1 : (getObj b).run P w = .ok (.map es es.size) w := by simp [getObj, Sem.run, hb]
    have h2 : (underlying T).run P w = .ok (.map k e) w := by simp [underlying, Sem.run, ht]
    simp only [Instr.range, Sem.run_bind, h2, Result.andThen_ok, h1]
    rfl
  · exact ((Chg.alloc w _).block b hlt (by simp)).trans hb

theorem perm_range {n : Nat} : ∀ (l : List Nat), l.Nodup → (∀ i, i ∈ l ↔ i < n) → l.Perm (List.range n) := by
  intro l h1 h2
  exact (List.perm_ext_iff_of_nodup h1 List.nodup_range).2 (fun i => by rw [h2, List.mem_range])

theorem filterMap_range : ∀ (ks : List Wd), (List.range ks.length).filterMap (fun i => ks[i]?) = ks
  | [] => rfl
  | x :: l => by
    rw [List.length_cons, List.range_succ_eq_map, List.filterMap_cons]
    simp only [List.getElem?_cons_zero, List.filterMap_map, Function.comp_def, List.getElem?_cons_succ]
    rw [filterMap_range l]

theorem nodup_lt_len : ∀ (n : Nat) (l : List Nat), l.Nodup → (∀ x ∈ l, x < n) → l.length ≤ n
  | 0, l, _, h => by
    cases l with
    | nil => simp
    | cons a l => exact absurd (h a (by simp)) (by omega)
  | n + 1, l, h1, h2 => by
    have := nodup_lt_len n (l.erase n) (h1.erase n) (fun x hx => by
      have := h1.mem_erase_iff.1 hx
      have := h2 x this.2
      omega)
    rw [List.length_erase] at this
    split at this <;> omega

theorem run_nextK {b r ty : Nat} {ks dn : List Wd} (h : IterK w b r ks dn) (hne : b ≠ r) :
    ∃ t rest dn' w', (Instr.next (.pointer (some ⟨r, 0, none⟩)) false ty).run P w = .ok (.tuple (Value.bool t :: rest).toArray) w' ∧ IterK w' b r ks dn' ∧ Chg [r] w w' ∧
      (t = false → dn' = dn ∧ dn.Perm ks) ∧ (t = true → ∃ s, dn' = dn ++ [s] ∧ dn.length < ks.length) := by
  obtain ⟨es, seen, hb, hE, hr, hn, hm⟩ := h
  have hsz : es.size = ks.length := by have := congrArg List.length hE.key; simpa using this
  have bornE : ∀ e ∈ es.toList, ∃ i, es.toList[i]? = some e ∧ e.born = i := fun e he => by
    obtain ⟨i, hi⟩ := List.getElem?_of_mem he
    exact ⟨i, hi, hE.born i e hi⟩
  have seenlt : ∀ i ∈ seen.toList, i < ks.length := fun i hi => by
    have : ks[i]? ∈ dn.map some := by rw [← hm]; exact List.mem_map.2 ⟨i, hi, rfl⟩
    obtain ⟨x, _, hx⟩ := List.mem_map.1 this
    exact (List.getElem?_eq_some_iff.1 hx.symm).1
  have hdl : seen.toList.length = dn.length := by have := congrArg List.length hm; simpa using this
  rcases run_next_at (P := P) w ty r b es.size es.size seen es es.size hr hb (fun x hx => by
      obtain ⟨i, h1, h2⟩ := bornE x hx
      rw [h2]; exact (List.getElem?_eq_some_iff.1 h1).1) (Nat.le_refl _) with ⟨h0, hrun⟩ | ⟨e, he, w1, hw1, hrun⟩
  · refine ⟨false, [], dn, w, by simpa using hrun, ⟨es, seen, hb, hE, hr, hn, hm⟩, Chg.refl _ _, fun _ => ⟨rfl, ?_⟩, by simp⟩
    have hall : ∀ i, i < ks.length → i ∈ seen.toList := fun i hi => by
      have hi' : i < es.toList.length := by simpa [hsz] using hi
      have : (leftOf es seen) = #[] := Array.eq_empty_of_size_eq_zero h0
      unfold leftOf at this
      rw [Array.filter_eq_empty_iff] at this
      have q := this es.toList[i] (Array.mem_toList_iff.1 (List.getElem_mem hi'))
      have hb' := hE.born i _ (List.getElem?_eq_getElem hi')
      simp at q
      rw [← hb']; simpa using q
    have hp := perm_range (n := ks.length) seen.toList hn (fun i => ⟨seenlt i, hall i⟩)
    have e1 : dn = seen.toList.filterMap (fun i => ks[i]?) := by
      have := congrArg (List.filterMap id) hm
      simpa [List.filterMap_map] using this.symm
    rw [e1]
    have := hp.filterMap (fun i => ks[i]?)
    rwa [filterMap_range] at this
  · obtain ⟨he1, he2⟩ := mem_left he
    obtain ⟨i, hi, hib⟩ := bornE e he1
    have hil : i < ks.length := by have := (List.getElem?_eq_some_iff.1 hi).1; simpa [hsz] using this
    have hk : ks[i]? = some ks[i] := List.getElem?_eq_getElem hil
    have hr1 : w1.heap[r]? = some (.mapIter (some b) es.size seen es.size) := by rcases hw1 with rfl | rfl <;> exact hr
    have hb1 : w1.heap[b]? = some (.map es es.size) := by rcases hw1 with rfl | rfl <;> exact hb
    have hc1 : Chg [r] w w1 := by rcases hw1 with rfl | rfl; exact Chg.refl _ _; exact (Chg.drew w).of_nil
    obtain ⟨q1, q2, q3⟩ := setObj_chg (P := P) (o' := .mapIter (some b) es.size (seen.push e.born) es.size) hr1 (by simp)
    have hni : i ∉ seen.toList := by rw [hib] at he2; simpa using he2
    have hnd : (seen.push e.born).toList.Nodup := by
      rw [Array.toList_push, List.nodup_append]
      exact ⟨hn, by simp, by rintro x hx y hy; simp at hy; subst hy; rw [hib]; intro ee; subst ee; exact hni hx⟩
    refine ⟨true, [e.key, e.val], dn ++ [ks[i]], _, by simpa using hrun, ⟨es, seen.push e.born, (q2.block b (Array.getElem?_eq_some_iff.1 hb1).1 (by simpa using hne)).trans hb1, hE, q3, hnd, ?_⟩, hc1.trans q2, by simp, fun _ => ⟨_, rfl, ?_⟩⟩
    · rw [Array.toList_push, List.map_append, hm, List.map_append]; simp [hib]
    · rw [← hdl]
      have hsub : (seen.push e.born).toList.length ≤ ks.length := by
        exact nodup_lt_len _ _ hnd (fun x hx => by
          rw [Array.toList_push] at hx
          rcases List.mem_append.1 hx with h | h
          · exact seenlt x h
          · simp at h; rw [h, hib]; exact hil)
      simp at hsub ⊢; omega

theorem run_entryK {b r : Nat} {ks dn : List Wd} {s : Wd} (h : IterK w b r ks (dn ++ [s])) : ∃ c, (Instr.entry (.pointer (some ⟨r, 0, none⟩))).run P w = .ok (.tuple #[str s, .int .i64 c]) w := by
  obtain ⟨es, seen, hb, hE, hr, hn, hm⟩ := h
  have hne : seen.toList ≠ [] := by intro e; rw [e] at hm; simp at hm
  obtain ⟨l, i, hl⟩ : ∃ l i, seen.toList = l ++ [i] := ⟨_, _, (List.dropLast_concat_getLast hne).symm⟩
  rw [hl] at hm
  simp only [List.map_append, List.map_cons, List.map_nil] at hm
  obtain ⟨hm1, hm2⟩ := List.append_inj' hm rfl
  simp only [List.cons.injEq, and_true] at hm2
  have hkl : i < ks.length := (List.getElem?_eq_some_iff.1 hm2).1
  have hsz : es.size = ks.length := by have := congrArg List.length hE.key; simpa using this
  have hei : i < es.toList.length := by simpa [hsz] using hkl
  have hg := List.getElem?_eq_getElem hei
  have hbn := hE.born i _ hg
  have hkey : (es.toList[i]).key = str s := by
    have := congrArg (fun l => l[i]?) hE.key
    simp only [List.getElem?_map, hg, hm2, Option.map_some] at this
    exact Option.some.inj this
  obtain ⟨c, hc⟩ := hE.val _ (List.getElem_mem hei)
  refine ⟨c, ?_⟩
  have hnd : (es.toList.map (·.born)).Nodup := by
    have : es.toList.map (·.born) = List.range es.toList.length := by
      apply List.ext_getElem?
      intro j
      rw [List.getElem?_map]
      by_cases hj : j < es.toList.length
      · rw [List.getElem?_eq_getElem hj, List.getElem?_range hj]; exact congrArg some (hE.born j _ (List.getElem?_eq_getElem hj))
      · rw [List.getElem?_eq_none (by omega), List.getElem?_eq_none (by simpa using hj)]; rfl
    rw [this]; exact List.nodup_range
  have hs : seen = (⟨l⟩ : Array Nat).push (es.toList[i]).born := by
    apply Array.toList_inj.1; rw [hl, Array.toList_push, hbn]
  have := run_entry_at (P := P) w r b es.size ⟨l⟩ es es.size es.toList[i] (by rw [← hs]; exact hr) hb (List.getElem_mem hei) hnd
  rw [this, hkey, hc]

/-! ## the operations -/
theorem e_mkm (st : St w0 M hs w) {T : Nat} (hw : gd L kn g = some true) (hd : okDst n (some d) = true)
    (next : ∀ b w', w0.heap.size ≤ b → St w0 M (.tree [b] (fun w => MapK w b []) :: hs) w' → vN n N ((d, .map (some b)) :: kn) w') : vS P n L Q (⟨some d, .makeMap T none, ty, pos, aft, g⟩) N kn w :=
  e_run (v := .map (some w.heap.size)) (w' := w.alloc (.map #[] 0)) hw hd (fun a ha => by
    simp only [execOp, Option.map_none]; rfl) (next _ _ st.chg.size (st.pushR (Chg.alloc w _) ⟨⟨#[], heap_alloc w _, by simp, by simp, by simp⟩, by simp, Loc_MapK _ _⟩ (by simp [Res.at?])))

theorem e_lk (st : St w0 M hs w) (i : Nat) {T k e b : Nat} {x y : Operand} {s : Wd} {ks : List Wd} (hw : gd L kn g = some true) (hd : okDst n (some d) = true) (hx : evO kn x = some (.map (some b))) (hy : evO kn y = some (str s))
    (hi : nth hs i = some (.tree [b] (fun w => MapK w b ks))) (ht : P.underlying T = some (.map k e)) (hk : P.underlying k = some .string) (hz : ∀ w, (zeroValue e).run P w = .ok (.int .i64 0) w)
    (next : ∀ c, vN n N ((d, .int .i64 c) :: kn) w) : vS P n L Q (⟨some d, .lookup T x y false, ty, pos, aft, g⟩) N kn w := by
  obtain ⟨c, hc⟩ := run_lookupK (P := P) (s := s) (st.res hi).1 ht hk hz
  exact e_run (v := .int .i64 c) (w' := w) hw hd (fun a ha => by simp only [execOp, ha.ev hx, ha.ev hy, Sem.run_bind, hc, Result.andThen_ok]; rfl) (next c)

theorem e_mu (st : St w0 M hs w) (i : Nat) {T k e b : Nat} {x y z : Operand} {s : Wd} {c : Int} {ks : List Wd} (hw : gd L kn g = some true) (hx : evO kn x = some (.map (some b))) (hy : evO kn y = some (str s)) (hv : evO kn z = some (.int .i64 c))
    (hi : nth hs i = some (.tree [b] (fun w => MapK w b ks))) (hm : b ∈ M ∨ w0.heap.size ≤ b) (ht : P.underlying T = some (.map k e)) (hk : P.underlying k = some .string)
    (next : ∀ w', St w0 M (setNth hs i (.tree [b] (fun w => MapK w b (insK s ks)))) w' → vN n N kn w') : vS P n L Q (⟨none, .mapUpdate T x y z, ty, pos, aft, g⟩) N kn w := by
  obtain ⟨w', h1, h2, h3⟩ := run_updateK (P := P) (s := s) (c := c) (st.res hi).1 ht hk
  exact e_do (w' := w') hw rfl (fun a ha => by simp only [execOp, ha.ev hx, ha.ev hy, ha.ev hv, Sem.run_bind, h1, Result.andThen_ok]; rfl)
    (next w' (st.turn hi rfl rfl h3 hm ⟨h2, fun k hk => Nat.lt_of_lt_of_le ((st.res hi).2.1 k hk) h3.size, Loc_MapK _ _⟩))

theorem e_rg (st : St w0 M hs w) (i : Nat) {T k e b : Nat} {x : Operand} {ks : List Wd} (hw : gd L kn g = some true) (hd : okDst n (some d) = true) (hx : evO kn x = some (.map (some b)))
    (hi : nth hs i = some (.tree [b] (fun w => MapK w b ks))) (ht : P.underlying T = some (.map k e))
    (next : ∀ r w', w0.heap.size ≤ r → b ≠ r → St w0 M (setNth hs i (.tree [b, r] (fun w => IterK w b r ks []))) w' → vN n N ((d, .pointer (some ⟨r, 0, none⟩)) :: kn) w') : vS P n L Q (⟨some d, .range T x, ty, pos, aft, g⟩) N kn w := by
  obtain ⟨w', h1, h2, h3, h4⟩ := run_rangeK (P := P) (st.res hi).1 ht
  have hbl := (st.res hi).2.1 b (by simp)
  exact e_run (v := .pointer (some ⟨w.heap.size, 0, none⟩)) (w' := w') hw hd (fun a ha => by simp only [execOp, ha.ev hx, Sem.run_bind, h1, Result.andThen_ok]; rfl)
    (next _ w' st.chg.size (by omega) (st.swap (C := []) hi h3 (by simp) (by simp) (by simp [Res.at?]) ⟨h2, by simp [h4]; omega, Loc_IterK _ _ _ _⟩))

theorem e_nx (st : St w0 M hs w) (i : Nat) {b r : Nat} {x : Operand} {ks dn : List Wd} (hw : gd L kn g = some true) (hd : okDst n (some d) = true) (hx : evO kn x = some (.pointer (some ⟨r, 0, none⟩)))
    (hi : nth hs i = some (.tree [b, r] (fun w => IterK w b r ks dn))) (hne : b ≠ r) (hm : r ∈ M ∨ w0.heap.size ≤ r)
    (next : ∀ t rest dn' w', (t = false → dn' = dn ∧ dn.Perm ks) → (t = true → ∃ s, dn' = dn ++ [s] ∧ dn.length < ks.length) → St w0 M (setNth hs i (.tree [b, r] (fun w => IterK w b r ks dn'))) w' →
      vN n N ((d, .tuple (Value.bool t :: rest).toArray) :: kn) w') : vS P n L Q (⟨some d, .next x false, ty, pos, aft, g⟩) N kn w := by
  obtain ⟨t, rest, dn', w', h1, h2, h3, h4, h5⟩ := run_nextK (P := P) (ty := ty) (st.res hi).1 hne
  exact e_run (v := .tuple (Value.bool t :: rest).toArray) (w' := w') hw hd (fun a ha => by simp only [execOp, ha.ev hx, Sem.run_bind, h1, Result.andThen_ok]; rfl)
    (next t rest dn' w' h4 h5 (st.swap (C := [r]) hi h3 (by simp [Res.at?]) (by simpa using hm) (fun k hk => .inl hk) ⟨h2, fun k hk => Nat.lt_of_lt_of_le ((st.res hi).2.1 k hk) h3.size, Loc_IterK _ _ _ _⟩))

theorem e_en (st : St w0 M hs w) (i : Nat) {b r : Nat} {x : Operand} {ks dn : List Wd} {s : Wd} (hw : gd L kn g = some true) (hd : okDst n (some d) = true) (hx : evO kn x = some (.pointer (some ⟨r, 0, none⟩)))
    (hi : nth hs i = some (.tree [b, r] (fun w => IterK w b r ks (dn ++ [s]))))
    (next : ∀ c, vN n N ((d, .tuple [str s, .int .i64 c].toArray) :: kn) w) : vS P n L Q (⟨some d, .entry x, ty, pos, aft, g⟩) N kn w := by
  obtain ⟨c, hc⟩ := run_entryK (P := P) (st.res hi).1
  exact e_run (v := .tuple [str s, .int .i64 c].toArray) (w' := w) hw hd (fun a ha => by simp only [execOp, ha.ev hx, Sem.run_bind, hc, Result.andThen_ok]; rfl) (next c)
end
end Sx


/- Calls that return or panic; what a caller hands on; a function that defers; a deferred closure that recovers. -/
namespace Sx
open Go Go.RowKit

/-- the panic of one value, not recovered -/
abbrev pch (v : Value) : List PanicEntry := [{ v := v, recovered := false }]
/-- the call returns, and 'Φ' holds; or it panics with a value, and 'Ψ' holds of it -/
def RetP (P : Program) (f : FuncId) (vals : List Value) (w : World) (Φ Ψ : Value → World → Prop) : Prop :=
  Calls P f vals.toArray w fun e w' => (∃ v, e = .returned v ∧ Φ v w') ∨ ∃ v, e = .panicked (pch v) ∧ Ψ v w'
section
variable {P : Program} {n : Fr} {L : List Oper} {Q : Exit → Act → World → Prop} {kn : Kn} {w w0 : World} {M : List Nat} {hs : List Res} {rest : List Oper}
variable {d ty : Nat} {pos : String} {aft : Array Edge} {g : Option (Nat × Bool)}
variable {N : Act → World → Prop}

/-- what is asked where a callee's panic goes on -/
abbrev PanQ (n : Fr) (Q : Exit → Act → World → Prop) (v : Value) (w : World) : Prop := ∀ a : Act, a.defers = n.2 → Q (.panic (pch v)) a w

theorem e_callp' {o : Oper} {f : FuncId} {vals : List Value} {Φ Ψ : Value → World → Prop} (hw : gd L kn o.guard = some true) (hd : okDst n o.dst = true)
    (hrun : ∀ a, K n kn a → (execOp a.eval o).run P w = .ok (.enter f vals.toArray) w)
    (c : RetP P f vals w Φ Ψ) (pan : ∀ v w', Ψ v w' → PanQ n Q v w') (next : ∀ v w', Φ v w' → vN n N (put o.dst v kn) w') : vS P n L Q o N kn w := by
  intro a ha
  rw [if_pos (ha.gd hw)]
  refine .inl ?_
  unfold Oper.wp
  rw [hrun a ha]
  refine Calls.mono c ?_
  rintro e w' (⟨v, rfl, hv⟩ | ⟨v, rfl, hv⟩)
  · exact next v w' hv _ (ha.put hd v)
  · exact pan v w' hv a ha.defers

theorem e_callp {f : FuncId} {args : Array Operand} {tys : Array TypeId} (vals : List Value) {Φ Ψ : Value → World → Prop} (hw : gd L kn g = some true) (hd : okDst n (some d) = true)
    (hcall : ∀ (az : Array Value) w, (callFunc f az).run P w = .ok (.enter f az) w)
    (hv : args.toList.map (evO kn) = vals.map some)
    (c : RetP P f vals w Φ Ψ) (pan : ∀ v w', Ψ v w' → PanQ n Q v w') (next : ∀ v w', Φ v w' → vN n N ((d, v) :: kn) w') :
    vS P n L Q ⟨some d, .call ⟨.value (.func f), args, tys⟩, ty, pos, aft, g⟩ N kn w :=
  e_callp' (f := f) (vals := vals) hw hd (fun a ha => by
    have hargs := evs_map ha hv
    simp only [execOp, resolve, hargs, Act.eval]
    simp [Deferred.ofValue, invoke, hcall]) c pan next

theorem e_callvp {f : FuncId} {x : Operand} {first captured : List Value} {args : Array Operand} {tys : Array TypeId} (vals : List Value) {Φ Ψ : Value → World → Prop} (hw : gd L kn g = some true) (hd : okDst n (some d) = true)
    (hx : evO kn x = some (.func (.func f) first.toArray captured.toArray))
    (hcall : ∀ (az : Array Value) w, (callFunc f az).run P w = .ok (.enter f az) w)
    (hv : args.toList.map (evO kn) = vals.map some)
    (c : RetP P f (first ++ vals ++ captured) w Φ Ψ) (pan : ∀ v w', Ψ v w' → PanQ n Q v w') (next : ∀ v w', Φ v w' → vN n N ((d, v) :: kn) w') :
    vS P n L Q ⟨some d, .call ⟨.value x, args, tys⟩, ty, pos, aft, g⟩ N kn w :=
  e_callp' (f := f) (vals := first ++ vals ++ captured) hw hd (fun a ha => by
    have hargs := evs_map ha hv
    simp only [execOp, resolve, hargs, ha.ev hx]
    simp [Deferred.ofValue, invoke, hcall]) c pan next

/-- the function's own panic -/
theorem e_panic {o : Oper} {v : Value} (hw : gd L kn o.guard = some true) (hrun : ∀ a, K n kn a → (execOp a.eval o).run P w = .halt (.panic v) w) (pan : PanQ n Q v w) : vS P n L Q o N kn w := by
  intro a ha
  rw [if_pos (ha.gd hw)]
  refine .inl ?_
  unfold Oper.wp
  rw [hrun a ha]
  exact pan a ha.defers
theorem e_panicI {x : Operand} {T : Nat} {v : Value} (hw : gd L kn g = some true) (hx : evO kn x = some (.iface T v)) (pan : PanQ n Q (.iface T v) w) {dst : Option Nat} : vS P n L Q ⟨dst, .panic x, ty, pos, aft, g⟩ N kn w :=
  e_panic hw (fun a ha => by simp only [execOp, ha.ev hx]; simp [Instr.panic, goPanic, Sem.run]; try rfl) pan

theorem retp_of {m : Nat} {f : FuncId} {fn : Func} {c : Code} (vals : List Value) {Φ Ψ : Value → World → Prop} (hf : P.funcs[f]? = some fn) (hb : fn.body = some c) (hn : fn.ntmps = m) (hle : Nat.ble vals.length m = true)
    (h : vcC P (m, []) c (bodyPost P fn fun e w' => (∃ v, e = .returned v ∧ Φ v w') ∨ ∃ v, e = .panicked (pch v) ∧ Ψ v w') (enumKn 0 vals) w) : RetP P f vals w Φ Ψ := vc_enter hf hb hn hle h

theorem y_mki {T : Nat} {x : Operand} {v : Value} {fs : Array Field} (hx : evO kn x = some v) (ht : P.underlying T = some (.struct fs)) : Y P n kn w ⟨some d, .makeInterface T x, ty, pos, aft, g⟩ (.iface T v) := fun a ha => by
  simp only [execOp, ha.ev hx]
  simp [Instr.makeInterface, run_underlying ht]
/-! ### functions that defer -/
/-- 'defer': the call is put ahead of those that wait -/
theorem e_defer {o : Oper} {D : Deferred} {m : Nat} {ds : List Deferred} (hn : n = (m, ds)) (hw : gd L kn o.guard = some true) (hd : o.dst = none)
    (hrun : ∀ a, K n kn a → (execOp a.eval o).run P w = .ok (.defer D) w) (next : vN (m, D :: ds) N kn w) : vS P n L Q o N kn w := by
  subst hn
  intro a ha
  rw [if_pos (ha.gd hw)]
  refine .inl ?_
  unfold Oper.wp
  rw [hrun a ha]
  have h := next { a with defers := D :: a.defers } ⟨by simp [ha.defers], ha.size, fun t v ht => ha.get t v ht⟩
  simpa [Oper.upon, Act.put, hd] using h

theorem vcd_enter {m : Nat} {f : FuncId} {fn : Func} {c : Code} {vals : List Value} {R : Ending → World → Prop} (hf : P.funcs[f]? = some fn) (hb : fn.body = some c) (hn : fn.ntmps = m) (hle : Nat.ble vals.length m = true)
    (h : vcC P (m, []) c (bodyPostD P fn R) (enumKn 0 vals) w) : Calls P f vals.toArray w R := by
  refine calls_of_wp_defers hf hb (h _ ?_)
  have hle' : vals.length ≤ m := by simpa [Nat.ble_eq] using hle
  refine ⟨rfl, ?_, ?_⟩
  · simp only [Array.size_append, List.size_toArray, Array.size_replicate, hn]; omega
  · intro t v ht
    obtain ⟨h1, h2⟩ := find_enumKn vals 0 t v ht
    have hlt : t < vals.length := by
      simp only [Nat.sub_zero] at h2
      exact (List.getElem?_eq_some_iff.1 h2).1
    simp only [Nat.sub_zero] at h2
    rw [Array.getElem?_append_left (by simpa using hlt)]
    simpa using h2

/-- a deferred call that leaves the panic as it is and returns, and 'Φ' holds of the memory behind it -/
def DefIdle (P : Program) (f : FuncId) (args : Array Value) (w : World) (Φ : World → Prop) : Prop :=
  CallsD P f args .returning w fun e u' w' => (∃ v, e = .returned v) ∧ u' = .returning ∧ Φ w'
/-- a deferred call that recovers the panic -/
def DefCatch (P : Program) (f : FuncId) (args : Array Value) (v : Value) (w : World) (Φ : World → Prop) : Prop :=
  CallsD P f args (.panicking (pch v)) w fun e u' w' => (∃ v, e = .returned v) ∧ u' = .panicking [{ v := v, recovered := true }] ∧ Φ w'

/-- leaving with one deferred closure, without a panic -/
theorem vqd_ret {m : Nat} {fn : Func} {R : Ending → World → Prop} {e : Exit} {f : FuncId} {cap : List Value} {Φ : World → Prop} (he : e = .ret ∨ e = .normal)
    (hcall : ∀ (az : Array Value) w, (callFunc f az).run P w = .ok (.enter f az) w)
    (h : DefIdle P f cap.toArray w Φ) (hres : ∀ w', Φ w' → ∃ v, (∀ a, K (m, [⟨.fn (.func f) cap.toArray, #[]⟩]) kn a → (results fn a.tmps).run P w' = .ok v w') ∧ R (.returned v) w') :
    vcQ (m, [⟨.fn (.func f) cap.toArray, #[]⟩]) (bodyPostD P fn R) e kn w := by
  intro a ha
  have key : Leaves P fn a.tmps R a.defers .returning w := by
    rw [ha.defers]
    refine leaves_cons (f := f) (args := cap.toArray) (by simp) (by simp [invoke, hcall]) (h.mono ?_)
    rintro e u' w' ⟨⟨v, rfl⟩, rfl, hΦ⟩
    obtain ⟨r, h1, h2⟩ := hres w' hΦ
    exact ⟨r, h1 a ha, h2⟩
  rcases he with rfl | rfl <;> exact key
/-! ### a map whose entries are known -/
abbrev entF (kvs : List (Wd × Value)) : List MapEntry := kvs.zipIdx.map fun p => { key := str p.1.1, val := p.1.2, born := p.2 }
abbrev mapF (kvs : List (Wd × Value)) : Obj := .map (entF kvs).toArray kvs.length
def getF : List (Wd × Value) → Wd → Option Value
  | [], _ => none
  | (k, v) :: r, s => if s = k then some v else getF r s
theorem findNow_F (s : Wd) : ∀ (kvs : List (Wd × Value)) (j i : Nat), ∃ m, Instr.findNow .string (str s) ((kvs.zipIdx j).map fun p => ({ key := str p.1.1, val := p.1.2, born := p.2 } : MapEntry)) i = some ((getF kvs s).map fun v => (m, v))
  | [], j, i => ⟨0, rfl⟩
  | (k, v) :: r, j, i => by
    by_cases hk : s = k
    · subst hk
      exact ⟨i, by simp [Instr.findNow, Instr.sameNow, bytes_beq, getF]⟩
    · obtain ⟨m, hm⟩ := findNow_F s r (j + 1) (i + 1)
      refine ⟨m, ?_⟩
      simp only [List.zipIdx_cons, List.map_cons, Instr.findNow, Instr.sameNow, bytes_beq, hk, decide_false, getF, if_false]
      exact hm
theorem e_mkF (st : St w0 M hs w) {T : Nat} (hw : gd L kn g = some true) (hd : okDst n (some d) = true)
    (next : ∀ b w', w0.heap.size ≤ b → St w0 M (.blk b (mapF []) :: hs) w' → vN n N ((d, .map (some b)) :: kn) w') : vS P n L Q (⟨some d, .makeMap T none, ty, pos, aft, g⟩) N kn w :=
  e_run (v := .map (some w.heap.size)) (w' := w.alloc (.map #[] 0)) hw hd (fun a ha => by
    simp only [execOp, Option.map_none]; rfl) (next _ _ st.chg.size (st.pushR (Chg.alloc w _) (heap_alloc w _) (by simp [Res.at?])))
theorem e_inF (st : St w0 M hs w) (i : Nat) {T k e b : Nat} {x y z : Operand} {s : Wd} {v : Value} {kvs : List (Wd × Value)} (hw : gd L kn g = some true) (hx : evO kn x = some (.map (some b))) (hy : evO kn y = some (str s)) (hv : evO kn z = some v)
    (hi : nth hs i = some (.blk b (mapF kvs))) (hm : b ∈ M ∨ w0.heap.size ≤ b) (ht : P.underlying T = some (.map k e)) (hk : P.underlying k = some .string) (hno : getF kvs s = none)
    (next : ∀ w', St w0 M (setNth hs i (.blk b (mapF (kvs ++ [(s, v)])))) w' → vN n N kn w') : vS P n L Q (⟨none, .insert T x y z, ty, pos, aft, g⟩) N kn w := by
  have hb : w.heap[b]? = some (mapF kvs) := st.res hi
  obtain ⟨m, hf⟩ := findNow_F s kvs 0 0
  rw [hno] at hf
  simp only [Option.map_none] at hf
  obtain ⟨q1, q2, q3⟩ := setObj_chg (P := P) (o' := mapF (kvs ++ [(s, v)])) hb (by simp)
  have hent : (entF kvs).toArray.push { key := str s, val := v, born := kvs.length } = (entF (kvs ++ [(s, v)])).toArray := by
    simp [entF, List.zipIdx_append]
  refine e_do (w' := ChangeMaps.setBlock w b (mapF (kvs ++ [(s, v)]))) hw rfl (fun a ha => ?_) (next _ (st.turn hi rfl rfl q2 hm q3))
  have hfk := findKey_str (P := P) hk hf w
  have hrun : (Instr.mapUpdate T (.map (some b)) (str s) v).run P w = .ok () (ChangeMaps.setBlock w b (mapF (kvs ++ [(s, v)]))) := by
    have e1 : (kvs ++ [(s, v)]).length = kvs.length + 1 := by simp
    simp only [mapF, ← hent, e1] at q1 ⊢
    simp [Instr.mapUpdate, getObj, Sem.run_bind, underlying, Sem.run, ht, hb, Result.andThen, checkKey_str hk, hfk]
    simpa using q1
  simp only [execOp, ha.ev hx, ha.ev hy, ha.ev hv, Sem.run_bind, hrun, Result.andThen_ok]; rfl
/-- v, ok := m[s] -/
theorem e_lkF (st : St w0 M hs w) (i : Nat) {T k e b : Nat} {x y : Operand} {s : Wd} {z : Value} {kvs : List (Wd × Value)} (hw : gd L kn g = some true) (hd : okDst n (some d) = true) (hx : evO kn x = some (.map (some b))) (hy : evO kn y = some (str s))
    (hi : nth hs i = some (.blk b (mapF kvs))) (ht : P.underlying T = some (.map k e)) (hk : P.underlying k = some .string) (hz : ∀ w, (zeroValue e).run P w = .ok z w)
    (next : vN n N ((d, .tuple [(getF kvs s).getD z, .bool (getF kvs s).isSome].toArray) :: kn) w) : vS P n L Q (⟨some d, .lookup T x y true, ty, pos, aft, g⟩) N kn w := by
  have hb : w.heap[b]? = some (mapF kvs) := st.res hi
  obtain ⟨m, hf⟩ := findNow_F s kvs 0 0
  refine e_run (v := .tuple [(getF kvs s).getD z, .bool (getF kvs s).isSome].toArray) (w' := w) hw hd (fun a ha => ?_) next
  have hfk := findKey_str (P := P) hk hf w
  have hrun : (Instr.lookup T (.map (some b)) (str s) true).run P w = .ok (.tuple [(getF kvs s).getD z, .bool (getF kvs s).isSome].toArray) w := by
    cases hg : getF kvs s with
    | none =>
      rw [hg] at hfk
      simp [Instr.lookup, getObj, Sem.run_bind, underlying, Sem.run, ht, hb, Result.andThen, checkKey_str hk, hfk, hz]
    | some u =>
      rw [hg] at hfk
      simp [Instr.lookup, getObj, Sem.run_bind, underlying, Sem.run, ht, hb, Result.andThen, checkKey_str hk, hfk]
  simp only [execOp, ha.ev hx, ha.ev hy, Sem.run_bind, hrun, Result.andThen_ok]; rfl
end
end Sx


/- A function that defers a closure that recovers. -/
namespace Sx
open Go Go.RowKit
section
variable {P : Program} {n : Fr} {L : List Oper} {Q : Exit → Act → World → Prop} {kn : Kn} {w w0 : World} {M : List Nat} {hs : List Res} {rest : List Oper}
variable {d ty : Nat} {pos : String} {aft : Array Edge} {g : Option (Nat × Bool)}
variable {N : Act → World → Prop}
/-- where a callee's panic goes on, the frame known -/
abbrev PanK (n : Fr) (kn : Kn) (Q : Exit → Act → World → Prop) (v : Value) (w : World) : Prop := ∀ a : Act, K n kn a → Q (.panic (pch v)) a w
theorem e_callk {f : FuncId} {args : Array Operand} {tys : Array TypeId} (vals : List Value) {Φ Ψ : Value → World → Prop} (hw : gd L kn g = some true) (hd : okDst n (some d) = true)
    (hcall : ∀ (az : Array Value) w, (callFunc f az).run P w = .ok (.enter f az) w)
    (hv : args.toList.map (evO kn) = vals.map some)
    (c : RetP P f vals w Φ Ψ) (pan : ∀ v w', Ψ v w' → PanK n kn Q v w') (next : ∀ v w', Φ v w' → vN n N ((d, v) :: kn) w') :
    vS P n L Q ⟨some d, .call ⟨.value (.func f), args, tys⟩, ty, pos, aft, g⟩ N kn w := by
  intro a ha
  rw [if_pos (ha.gd hw)]
  refine .inl ?_
  unfold Oper.wp
  have hrun : (execOp a.eval ⟨some d, .call ⟨.value (.func f), args, tys⟩, ty, pos, aft, g⟩).run P w = .ok (.enter f vals.toArray) w := by
    have hargs := evs_map ha hv
    simp only [execOp, resolve, hargs, Act.eval]
    simp [Deferred.ofValue, invoke, hcall]
  rw [hrun]
  refine Calls.mono c ?_
  rintro e w' (⟨v, rfl, hv⟩ | ⟨v, rfl, hv⟩)
  · exact next v w' hv _ (ha.put hd v)
  · exact pan v w' hv a ha
/-- 'defer' of a closure -/
theorem e_deferV {x : Operand} {f : FuncId} {cap : List Value} {tys : Array TypeId} {m : Nat} {ds : List Deferred} (hn : n = (m, ds)) (hw : gd L kn g = some true)
    (hx : evO kn x = some (.func (.func f) #[] cap.toArray)) (next : vN (m, ⟨.fn (.func f) cap.toArray, #[]⟩ :: ds) N kn w) :
    vS P n L Q ⟨none, .defer ⟨.value x, #[], tys⟩, ty, pos, aft, g⟩ N kn w :=
  e_defer hn hw rfl (fun a ha => by
    simp only [execOp, resolve, ha.ev hx]
    simp [Deferred.ofValue]) next
theorem vqd_post {m : Nat} {fn : Func} {R : Ending → World → Prop} {e : Exit} {v : Value} (he : e = .ret ∨ e = .normal) (hr : ∀ a, K (m, []) kn a → (results fn a.tmps).run P w = .ok v w) (hR : R (.returned v) w) : vcQ (m, []) (bodyPostD P fn R) e kn w := by
  intro a ha
  have key : Leaves P fn a.tmps R a.defers .returning w := by rw [ha.defers]; exact ⟨v, hr a ha, hR⟩
  rcases he with rfl | rfl <;> exact key
theorem results3 {fn : Func} {r1 r2 r3 : ResultVar} {v1 v2 v3 : Value} {m : Nat} {ds : List Deferred} (st : St w0 M hs w) (hf : fn.results = #[r1, r2, r3]) (h1 : ResV P hs kn r1 v1) (h2 : ResV P hs kn r2 v2) (h3 : ResV P hs kn r3 v3) :
    ∀ a, K (m, ds) kn a → (results fn a.tmps).run P w = .ok (.tuple #[v1, v2, v3]) w := fun a ha => by
  simp [results_eq, hf, h1.run st ha, h2.run st ha, h3.run st ha]
theorem retd_of {m : Nat} {f : FuncId} {fn : Func} {c : Code} (vals : List Value) {Φ : Value → World → Prop} (hf : P.funcs[f]? = some fn) (hb : fn.body = some c) (hn : fn.ntmps = m) (hle : Nat.ble vals.length m = true)
    (h : vcC P (m, []) c (bodyPostD P fn fun e w' => ∃ v, e = .returned v ∧ Φ v w') (enumKn 0 vals) w) : Ret P f vals w Φ := vcd_enter hf hb hn hle h
/-- a panic's end, where a deferred closure recovers -/
theorem pan_leave {m : Nat} {fn : Func} {R : Ending → World → Prop} {f : FuncId} {cap : List Value} {v : Value} {Φ : World → Prop}
    (hcall : ∀ (az : Array Value) w, (callFunc f az).run P w = .ok (.enter f az) w)
    (h : DefCatch P f cap.toArray v w Φ) (hres : ∀ w', Φ w' → ∃ r, (∀ a, K (m, [⟨.fn (.func f) cap.toArray, #[]⟩]) kn a → (results fn a.tmps).run P w' = .ok r w') ∧ R (.returned r) w') :
    PanK (m, [⟨.fn (.func f) cap.toArray, #[]⟩]) kn (bodyPostD P fn R) v w := by
  intro a ha
  show Leaves P fn a.tmps R a.defers (.panicking (pch v)) w
  rw [ha.defers]
  refine leaves_cons (f := f) (args := cap.toArray) (by simp) (by simp [invoke, hcall]) (h.mono ?_)
  rintro e u' w' ⟨⟨x, rfl⟩, rfl, hΦ⟩
  obtain ⟨r, h1, h2⟩ := hres w' hΦ
  exact ⟨r, h1 a ha, h2⟩
theorem e_bxn (st : St w0 M hs w) {x : Operand} {T : Nat} {v : Value} {l : List Value} (hw : gd L kn g = some true) (hd : okDst n (some d) = true)
    (hx : evO kn x = some v) (hl : v.cells.toList = l)
    (next : ∀ b w', b = w.heap.size → w0.heap.size ≤ b → St w0 M (.blk b (.cells l.toArray T (0, 0)) :: hs) w' → vN n N ((d, .pointer (some ⟨b, 0, none⟩)) :: kn) w') : vS P n L Q (⟨some d, .box T x, ty, pos, aft, g⟩) N kn w :=
  e_new st (v := .pointer (some ⟨w.heap.size, 0, none⟩)) (l := l) (E := T) hw hd (fun a ha => by
    have : v.cells = l.toArray := by rw [← hl]
    simp only [execOp, ha.ev hx, Instr.box, ← this]
    rfl) (fun b w' e hb st' => by subst e; exact next _ w' rfl hb st')
theorem y_ta {x : Operand} {T U : Nat} {v : Value} {fs : Array Field} (hx : evO kn x = some (.iface T v)) (ht : P.underlying T = some (.struct fs)) : Y P n kn w ⟨some d, .typeAssert x U T false, ty, pos, aft, g⟩ v := fun a ha => by
  simp only [execOp, ha.ev hx]
  simp [Instr.typeAssert, run_underlying ht]
/-- a field that is a struct, of a struct that is a value -/
theorem y_fldA {T i off sz : Nat} {x : Operand} {cs vs : List Value} {fs : Array Field} {f : Field} (hx : evO kn x = some (.agg cs.toArray)) (ht : P.underlying T = some (.struct fs)) (hf : nth fs.toList i = some f) (ho : f.offset = off)
    (ha : ∀ w, (Go.isAgg f.type).run P w = .ok true w) (hs : ∀ w, (Go.sizeOf f.type).run P w = .ok sz w) (hv : takeN sz (dropN cs off) = some vs) : Y P n kn w ⟨some d, .field T x i, ty, pos, aft, g⟩ (.agg vs.toArray) := fun a hk => by
  subst ho
  rw [nth_eq] at hf
  have hf' : fs[i]? = some f := by simpa using hf
  simp only [execOp, hk.ev hx]
  simp [Instr.field, run_underlying ht, hf', asAgg, run_partA ha hs hv]
end
/-- a deferred closure's post does not look at the temporaries of a panic -/
theorem okQ_bodyS {P : Program} {fn : Func} {c0 : Frame} {cs cs' : List Frame} {R : Ending → FrameMode → World → Prop} : okQ (fun e a w => bodyPostS P fn c0 cs R e a cs' w) := fun c a a' w h hq => by
  obtain ⟨h1, h2⟩ := hq
  exact ⟨h ▸ h1, h2⟩
end Sx
namespace Sx
open Go Go.RowKit
theorem St.of3 {w : World} {b c e : Nat} {o p q : Obj} (M : List Nat) (h : w.heap[b]? = some o) (h' : w.heap[c]? = some p) (h'' : w.heap[e]? = some q) (h1 : b ≠ c) (h2 : b ≠ e) (h3 : c ≠ e) : St w M [.blk b o, .blk c p, .blk e q] w :=
  ⟨Chg.refl M w, List.pairwise_cons.2 ⟨by simp [Res.at?, h1, h2], List.pairwise_cons.2 ⟨by simp [Res.at?, h3], List.pairwise_singleton _ _⟩⟩, by simp [Res.holds, h, h', h'']⟩
/-- the frame of a deferred closure, as far as it is known -/
theorem K.of {m : Nat} {kn : Kn} {t : Array Value} (hs : t.size = m) (h : ∀ i v, find kn i = some v → t[i]? = some v) : K (m, []) kn { tmps := t, defers := [] } := ⟨rfl, hs, h⟩
theorem wp_of_vc {P : Program} {n : Fr} {c : Code} {Q : Exit → Act → World → Prop} {kn : Kn} {a : Act} {w : World} (ha : K n kn a) (h : vcC P n c Q kn w) : c.wp P Q a w := h a ha
/-- a region none of whose operations ends in a panic -/
def noPan (Q : Exit → Act → World → Prop) : Exit → Act → World → Prop := fun e a w => (match e with | .panic _ => False | _ => True) ∧ Q e a w
theorem okQ_noPan {Q : Exit → Act → World → Prop} : okQ (noPan Q) := fun _ _ _ _ _ hq => hq.1.elim
theorem vc_noPan {P : Program} {n : Fr} {c : Code} {Q : Exit → Act → World → Prop} {kn : Kn} {w : World} (h : vcC P n c (noPan Q) kn w) : vcC P n c Q kn w := fun a ha => Code.wp_mono (fun _ _ _ h => h.2) (h a ha)
theorem vq_noPan {n : Fr} {Q : Exit → Act → World → Prop} {kn : Kn} {w : World} (h : vcQ n Q .normal kn w) : vcQ n (noPan Q) .normal kn w := fun a ha => ⟨trivial, h a ha⟩
end Sx


/- Short names for the regions that are drawn. -/
namespace Sx
open Go Go.RowKit
abbrev Yt (n : Nat) : Nat × Bool := (n, true)
abbrev Nt (n : Nat) : Nat × Bool := (n, false)
section
variable {P : Program} {n : Fr} {L : List Oper} {Q : Exit → Act → World → Prop} {kn : Kn} {w w0 : World} {M : List Nat} {hs' : List Res} {id : Nat}
theorem vdr (hm : P.follows .mixedOrders = true) (plan : List (Nat × Bool)) (hs : List Res) (st : St w0 M hs' w) (h : ∀ w', St w0 M hs' w' → St w0 M hs w' → vP P n L Q (fun w => St w0 M hs w) plan kn w')
    (hsub : hs.Sublist hs' := by repeat (first | exact sl0 | apply sl1 | apply sl2)) (hsel : Region.noSelect L.toArray = true := by kernel_rfl) (hQ : okQ Q := by repeat (first | exact okQ_noPan | exact okQ_body | exact okQ_bodyS | refine okQ_then ?_ | refine okQ_block ?_)) (hlen : plan.length = L.length := by exact rfl) (hplan : planD L.toArray plan (Array.replicate L.length false) = true := by kernel_rfl) :
    vcC P n (.region id L.toArray true) Q kn w := vc_draw hm plan _ (st.drop hsub) hsel hQ hlen hplan fun w' c => h w' (st.call0 c) ((st.call0 c).drop hsub)
theorem vdr0 (hm : P.follows .mixedOrders = true) (plan : List (Nat × Bool)) (st : St w0 M hs' w) (h : ∀ w', St w0 M hs' w' → St w0 M hs' w' → vP P n L Q (fun w => St w0 M hs' w) plan kn w')
    (hsel : Region.noSelect L.toArray = true := by kernel_rfl) (hQ : okQ Q := by repeat (first | exact okQ_noPan | exact okQ_body | exact okQ_bodyS | refine okQ_then ?_ | refine okQ_block ?_)) (hlen : plan.length = L.length := by exact rfl) (hplan : planD L.toArray plan (Array.replicate L.length false) = true := by kernel_rfl) :
    vcC P n (.region id L.toArray true) Q kn w := vc_draw hm plan _ st hsel hQ hlen hplan fun w' c => h w' (st.call0 c) (st.call0 c)
theorem ddr (hm : P.follows .mixedOrders = true) (plan : Pl) (hs : List Res) (st : St w0 M hs' w) (h : ∀ w', St w0 M hs' w' → St w0 M hs w' → vD P n L Q (fun w => St w0 M hs w) plan kn w')
    (hsub : hs.Sublist hs' := by repeat (first | exact sl0 | apply sl1 | apply sl2)) (hsel : Region.noSelect L.toArray = true := by kernel_rfl) (hQ : okQ Q := by repeat (first | exact okQ_noPan | exact okQ_body | exact okQ_bodyS | refine okQ_then ?_ | refine okQ_block ?_)) (hlen : plan.len = L.length := by exact rfl) (hplan : plOK L.toArray plan (Array.replicate L.length false) = true := by kernel_rfl) :
    vcC P n (.region id L.toArray true) Q kn w := vd_draw hm plan _ (st.drop hsub) hsel hQ hlen hplan fun w' c => h w' (st.call0 c) ((st.call0 c).drop hsub)
theorem ddr0 (hm : P.follows .mixedOrders = true) (plan : Pl) (st : St w0 M hs' w) (h : ∀ w', St w0 M hs' w' → St w0 M hs' w' → vD P n L Q (fun w => St w0 M hs' w) plan kn w')
    (hsel : Region.noSelect L.toArray = true := by kernel_rfl) (hQ : okQ Q := by repeat (first | exact okQ_noPan | exact okQ_body | exact okQ_bodyS | refine okQ_then ?_ | refine okQ_block ?_)) (hlen : plan.len = L.length := by exact rfl) (hplan : plOK L.toArray plan (Array.replicate L.length false) = true := by kernel_rfl) :
    vcC P n (.region id L.toArray true) Q kn w := vd_draw hm plan _ st hsel hQ hlen hplan fun w' c => h w' (st.call0 c) (st.call0 c)
theorem kdr (hm : P.follows .mixedOrders = true) (plan : List (Nat × Bool)) (s : Nat) (hs : List Res) (st : St w0 M hs' w) (h : ∀ w', St w0 M hs' w' → St w0 M hs w' → vK P n L Q s (fun w => St w0 M hs w) false plan kn w')
    (hsub : hs.Sublist hs' := by repeat (first | exact sl0 | apply sl1 | apply sl2)) (hsel : Region.noSelect L.toArray = true := by kernel_rfl) (hQ : okQ Q := by repeat (first | exact okQ_noPan | exact okQ_body | exact okQ_bodyS | refine okQ_then ?_ | refine okQ_block ?_)) (hlen : plan.length = L.length := by exact rfl) (hplan : planD L.toArray plan (Array.replicate L.length false) = true := by kernel_rfl) (hss : Nat.blt s L.length = true := by exact rfl) :
    vcC P n (.region id L.toArray true) Q kn w := vk_draw hm plan s _ (st.drop hsub) hsel hQ hlen hplan hss fun w' c => h w' (st.call0 c) ((st.call0 c).drop hsub)
end
section
variable {w0 w : World} {M : List Nat} {hs : List Res} {P : Program} {n : Fr} {kn : Kn} {d ty : Nat} {pos : String} {aft : Array Edge} {g : Option (Nat × Bool)}
theorem ybd {T : Nat} {parts : Array (Nat × Operand)} (r : Value) (vals : List (Nat × Value)) (hv : parts.toList.map (fun p => (evO kn p.2).map (p.1, ·)) = vals.map some := by exact rfl)
    (hrun : ∀ w, (Instr.build T vals.toArray).run P w = .ok r w := by intro w; simp [Instr.build, go_sem] <;> repeat' constructor) : Y P n kn w ⟨some d, .build T parts, ty, pos, aft, g⟩ r := y_bld r vals hv hrun
theorem vr1 {m : Nat} {fn : Func} {r1 : ResultVar} {v1 : Value} {e : Exit} {Φ : Value → World → Prop} (st : St w0 M hs w) (hf : fn.results = #[r1]) (hR : Φ v1 w) (h1 : ResV P hs kn r1 v1 := by exact .tmp rfl) (he : e = .ret ∨ e = .normal := by first | exact .inl rfl | exact .inr rfl) :
    vcQ (m, []) (bodyPost P fn fun e w => ∃ v, e = .returned v ∧ Φ v w) e kn w := vq_ret1 st he hf h1 ⟨_, rfl, hR⟩
theorem St.rs (st : St w0 M hs w) (i : Nat) {r : Res} (h : nth hs i = some r := by exact rfl) : r.holds w0.heap.size w := st.res h
theorem St.sm {S : Nat → Prop} (st : St w0 [] hs w) : Same S w0 w := Same.of_nil st.chg
end
end Sx


/- What the lexer computes, in plain words: no program in sight. -/
namespace LexS

def isLetter (c : UInt8) : Bool := decide (97 ≤ c.toNat ∧ c.toNat ≤ 122 ∨ 65 ≤ c.toNat ∧ c.toNat ≤ 90 ∨ c.toNat = 95)
def isDigit (c : UInt8) : Bool := decide (48 ≤ c.toNat ∧ c.toNat ≤ 57)
def isBlank (c : UInt8) : Bool := decide (c.toNat = 32 ∨ c.toNat = 9 ∨ c.toNat = 10 ∨ c.toNat = 13)
def isIdent (c : UInt8) : Bool := isLetter c || isDigit c
def wShared : List UInt8 := [115, 104, 97, 114, 101, 100]
def wLock : List UInt8 := [108, 111, 99, 107]
def wThread : List UInt8 := [116, 104, 114, 101, 97, 100]
def wLocal : List UInt8 := [108, 111, 99, 97, 108]
def wIf : List UInt8 := [105, 102]
def wElse : List UInt8 := [101, 108, 115, 101]
def wWhile : List UInt8 := [119, 104, 105, 108, 101]
def wPrint : List UInt8 := [112, 114, 105, 110, 116]
def wSkip : List UInt8 := [115, 107, 105, 112]
def wSwap : List UInt8 := [115, 119, 97, 112]
def isWord (l : List UInt8) : Bool := decide (l = wShared ∨ l = wLock ∨ l = wThread ∨ l = wLocal ∨ l = wIf ∨ l = wElse ∨ l = wWhile ∨ l = wPrint ∨ l = wSkip ∨ l = wSwap)
/-- the signs of two bytes -/
def isSign2 (l : List UInt8) : Bool := decide (l = [61, 61] ∨ l = [33, 61] ∨ l = [60, 61] ∨ l = [62, 61] ∨ l = [60, 60] ∨ l = [62, 62])
def signs1 : List UInt8 := [40, 41, 123, 125, 44, 59, 61, 43, 45, 42, 47, 37, 38, 124, 94, 33, 60, 62]
/-- the signs of one byte -/
def isSign1 (l : List UInt8) : Bool := match l with | [c] => signs1.contains c | _ => false
def isSign (l : List UInt8) : Bool := isSign2 l || isSign1 l
def isName (l : List UInt8) : Bool := match l with
  | [] => false
  | c :: _ => decide (l.length ≤ 32) && !isDigit c && !isWord l && l.all isIdent

/-- how many bytes stand ahead of the first LF (or the end) -/
def toLf : List UInt8 → Nat
  | [] => 0
  | c :: r => if c = 10 then 0 else toLf r + 1

def isRem (l : List UInt8) : Bool := match l with | a :: b :: _ => decide (a = 47 ∧ b = 47) | _ => false

/-- how many bytes of blanks and remarks stand ahead -/
def skipF : Nat → List UInt8 → Nat
  | 0, _ => 0
  | _ + 1, [] => 0
  | k + 1, c :: r => if isBlank c then skipF k r + 1 else if isRem (c :: r) then toLf (c :: r) + skipF k ((c :: r).drop (toLf (c :: r))) else 0
def skip (l : List UInt8) : Nat := skipF (l.length + 1) l

theorem toLf_le (l : List UInt8) : toLf l ≤ l.length := by
  induction l with
  | nil => simp [toLf]
  | cons c r ih => simp only [toLf]; split <;> simp <;> omega

theorem toLf_pos {l : List UInt8} (h : isRem l = true) : 0 < toLf l := by
  match l with
  | [] => simp [isRem] at h
  | [_] => simp [isRem] at h
  | a :: b :: r =>
    simp [isRem] at h
    obtain ⟨rfl, rfl⟩ := h
    simp [toLf]

theorem skipF_fuel : ∀ (k j : Nat) (l : List UInt8), l.length < k → l.length < j → skipF k l = skipF j l
  | 0, j, l, h, _ => by omega
  | k + 1, 0, l, _, h => by omega
  | k + 1, j + 1, [], _, _ => rfl
  | k + 1, j + 1, c :: r, h1, h2 => by
    simp only [List.length_cons] at h1 h2
    simp only [skipF]
    split
    · rw [skipF_fuel k j r (by omega) (by omega)]
    · split
      · rename_i hr
        have hp := toLf_pos hr
        have hl : ((c :: r).drop (toLf (c :: r))).length < r.length + 1 := by simp only [List.length_drop, List.length_cons]; omega
        rw [skipF_fuel k j _ (by omega) (by omega)]
      · rfl

theorem skip_nil : skip [] = 0 := rfl
theorem skip_blank {c : UInt8} {r : List UInt8} (h : isBlank c = true) : skip (c :: r) = skip r + 1 := by
  unfold skip
  simp only [List.length_cons, skipF, h, if_true]
theorem skip_rem {l : List UInt8} (h : isRem l = true) : skip l = toLf l + skip (l.drop (toLf l)) := by
  match l, h with
  | [], h => simp [isRem] at h
  | c :: r, h =>
    have hb : isBlank c = false := by
      match r, h with
      | [], h => simp [isRem] at h
      | b :: r, h =>
        simp [isRem] at h
        obtain ⟨rfl, rfl⟩ := h
        decide
    have hp := toLf_pos h
    unfold skip
    simp only [List.length_cons, skipF, hb, h, if_true]
    simp only [Bool.false_eq_true, if_false]
    rw [skipF_fuel (r.length + 1) (((c :: r).drop (toLf (c :: r))).length + 1)]
    · simp only [List.length_drop, List.length_cons]; omega
    · omega
theorem skip_other {c : UInt8} {r : List UInt8} (h : isBlank c = false) (hr : isRem (c :: r) = false) : skip (c :: r) = 0 := by
  unfold skip
  simp only [List.length_cons, skipF, h, hr, Bool.false_eq_true, if_false]

theorem skip_le (l : List UInt8) : skip l ≤ l.length := by
  have key : ∀ n (l : List UInt8), l.length = n → skip l ≤ l.length := by
    intro n
    induction n using Nat.strongRecOn with
    | _ n ih =>
      intro l hl
      match l with
      | [] => simp [skip_nil]
      | c :: r =>
        cases hb : isBlank c with
        | true =>
          rw [skip_blank hb]
          have := ih r.length (by simp at hl; omega) r rfl
          simp; omega
        | false =>
          cases hr : isRem (c :: r) with
          | true =>
            rw [skip_rem hr]
            have hp := toLf_pos hr
            have hle := toLf_le (c :: r)
            have := ih ((c :: r).drop (toLf (c :: r))).length (by simp only [List.length_drop, List.length_cons] at *; omega) _ rfl
            simp only [List.length_drop] at this
            omega
          | false => rw [skip_other hb hr]; simp
  exact key _ l rfl

theorem indexByte_lf (l : List UInt8) : Go.Lib.indexByte l 10 = -1 ∧ toLf l = l.length ∨ Go.Lib.indexByte l 10 = (toLf l : Int) ∧ 0 ≤ Go.Lib.indexByte l 10 := by
  induction l with
  | nil => left; simp [Go.Lib.indexByte, toLf]
  | cons c r ih =>
    simp only [Go.Lib.indexByte, toLf]
    by_cases hc : c = 10
    · subst hc; right; simp
    · have hc' : (c == 10) = false := by simpa using hc
      simp only [hc', hc, if_false, Bool.false_eq_true]
      rcases ih with ⟨h1, h2⟩ | ⟨h1, h2⟩
      · left; simp [h1, h2]
      · right
        have : ¬ (Go.Lib.indexByte r 10 == -1) = true := by simp; omega
        rw [if_neg this, h1]
        constructor
        · omega
        · omega

theorem contains_ib (l : List UInt8) (c : UInt8) : decide (0 ≤ Go.Lib.indexByte l c) = l.contains c := by
  have h : (0 ≤ Go.Lib.indexByte l c) ↔ c ∈ l := by
    induction l with
    | nil => simp [Go.Lib.indexByte]
    | cons b r ih =>
      have hge := Go.Lib.indexByte_ge r c
      simp only [Go.Lib.indexByte]
      by_cases hb : b = c
      · subst hb; simp
      · have hb' : (b == c) = false := by simpa using hb
        simp only [hb', Bool.false_eq_true, if_false, List.mem_cons, Ne.symm hb, false_or, ← ih]
        split
        · rename_i h; simp at h; omega
        · rename_i h; simp at h; omega
  rw [Bool.eq_iff_iff]; simp [h]

/-! ### tokens -/
structure Tok where
  kind : Nat
  text : List UInt8
  word : Nat
  at_ : Nat
  deriving DecidableEq, Repr

def numVal (l : List UInt8) : Nat := l.foldl (fun n c => 10 * n + (c.toNat - 48)) 0

theorem numVal_snoc (l : List UInt8) (c : UInt8) : numVal (l ++ [c]) = 10 * numVal l + (c.toNat - 48) := by simp [numVal]

inductive TokR where
  | tok (t : Tok)
  | bad (rule at_ : Nat)
  deriving DecidableEq, Repr

/-- the token that begins a text that is not empty; 'i': where -/
def tokAt (r : List UInt8) (i : Nat) : TokR := match r with
  | [] => .bad 1 i
  | c :: _ =>
    if isLetter c then
      let t := r.takeWhile isIdent
      if isWord t then .tok ⟨2, t, 0, i⟩ else if 32 < t.length then .bad 2 (i + 32) else .tok ⟨1, t, 0, i⟩
    else if isDigit c then
      let t := r.takeWhile isDigit
      if (1 < t.length ∧ c = 48) ∨ 9223372036854775807 < numVal t then .bad 3 i
      else match r.drop t.length with
        | d :: _ => if isLetter d then .bad 4 (i + t.length) else .tok ⟨3, t, numVal t, i⟩
        | [] => .tok ⟨3, t, numVal t, i⟩
    else if isSign2 (r.take 2) then .tok ⟨4, r.take 2, 0, i⟩
    else if isSign1 [c] then .tok ⟨4, [c], 0, i⟩
    else .bad 1 i

/-- the tokens ahead of the first fault; the fault -/
def scanF : Nat → List UInt8 → Nat → List Tok × Option (Nat × Nat)
  | 0, _, _ => ([], none)
  | k + 1, r, i =>
    match r.drop (skip r) with
    | [] => ([], none)
    | c :: r' => match tokAt (c :: r') (i + skip r) with
      | .bad rule p => ([], some (rule, p))
      | .tok t => ((t :: (scanF k ((c :: r').drop t.text.length) (i + skip r + t.text.length)).1), (scanF k ((c :: r').drop t.text.length) (i + skip r + t.text.length)).2)
def front (s : List UInt8) : List Tok × Option (Nat × Nat) := scanF (s.length + 1) s 0

theorem tok_len {r : List UInt8} {i : Nat} {t : Tok} (h : tokAt r i = .tok t) : 1 ≤ t.text.length ∧ t.text = r.take t.text.length ∧ t.at_ = i := by
  match r, h with
  | [], h => simp [tokAt] at h
  | c :: r, h =>
    have htw : ∀ p : UInt8 → Bool, (c :: r).takeWhile p = (c :: r).take ((c :: r).takeWhile p).length := fun p => by
      have h := List.takeWhile_append_dropWhile (p := p) (l := c :: r)
      have h2 : (c :: r).take ((c :: r).takeWhile p).length = ((c :: r).takeWhile p ++ (c :: r).dropWhile p).take ((c :: r).takeWhile p).length := by rw [h]
      rw [h2, List.take_left']
      rfl
    have hpos : ∀ p : UInt8 → Bool, p c = true → 1 ≤ ((c :: r).takeWhile p).length := fun p hp => by rw [List.takeWhile_cons, if_pos hp]; simp
    have h2 : ∀ l : List UInt8, isSign2 l = true → l.length = 2 := fun l hl => by
      simp only [isSign2, decide_eq_true_eq] at hl
      rcases hl with h | h | h | h | h | h <;> simp [h]
    simp only [tokAt] at h
    split at h
    · rename_i hc
      have hi : isIdent c = true := by simp [isIdent, hc]
      split at h
      · cases h; exact ⟨hpos _ hi, htw _, rfl⟩
      · split at h
        · cases h
        · cases h; exact ⟨hpos _ hi, htw _, rfl⟩
    · split at h
      · rename_i hd
        split at h
        · cases h
        · split at h
          · split at h
            · cases h
            · cases h; exact ⟨hpos _ hd, htw _, rfl⟩
          · cases h; exact ⟨hpos _ hd, htw _, rfl⟩
      · split at h
        · rename_i hs
          cases h
          have hl := h2 _ hs
          exact ⟨by dsimp only; omega, by dsimp only; rw [hl], rfl⟩
        · split at h
          · cases h; exact ⟨by simp, by simp, rfl⟩
          · cases h

theorem scanF_fuel : ∀ (k j : Nat) (r : List UInt8) (i : Nat), r.length < k → r.length < j → scanF k r i = scanF j r i
  | 0, _, _, _, h, _ => by omega
  | _ + 1, 0, _, _, _, h => by omega
  | k + 1, j + 1, r, i, h1, h2 => by
    simp only [scanF]
    cases hd : r.drop (skip r) with
    | nil => rfl
    | cons c r' =>
      have hl : (c :: r').length ≤ r.length := by rw [← hd]; simp
      cases ht : tokAt (c :: r') (i + skip r) with
      | bad rule p => simp only [ht]
      | tok t =>
        have h3 := (tok_len ht).1
        have h4 : 1 ≤ (c :: r').length := by simp
        have e := scanF_fuel k j ((c :: r').drop t.text.length) (i + skip r + t.text.length) (by simp only [List.length_drop]; omega) (by simp only [List.length_drop]; omega)
        simp only [ht, e]

def scanA (r : List UInt8) (i : Nat) : List Tok × Option (Nat × Nat) := scanF (r.length + 1) r i
theorem front_eq (s : List UInt8) : front s = scanA s 0 := rfl
theorem scanA_end {r : List UInt8} {i : Nat} (h : r.length ≤ skip r) : scanA r i = ([], none) := by
  simp only [scanA, scanF]
  rw [List.drop_eq_nil_of_le h]
theorem scanA_bad {r : List UInt8} {i rule p : Nat} (h : skip r < r.length) (hb : tokAt (r.drop (skip r)) (i + skip r) = .bad rule p) : scanA r i = ([], some (rule, p)) := by
  simp only [scanA, scanF]
  cases hd : r.drop (skip r) with
  | nil => have := congrArg List.length hd; simp at this; omega
  | cons c r' => rw [hd] at hb; simp only [hb]
theorem scanA_tok {r : List UInt8} {i : Nat} {t : Tok} (h : skip r < r.length) (hb : tokAt (r.drop (skip r)) (i + skip r) = .tok t) :
    scanA r i = (t :: (scanA (r.drop (skip r + t.text.length)) (i + skip r + t.text.length)).1, (scanA (r.drop (skip r + t.text.length)) (i + skip r + t.text.length)).2) := by
  have h3 := (tok_len hb).1
  have e : scanA (r.drop (skip r + t.text.length)) (i + skip r + t.text.length) = scanF r.length (r.drop (skip r + t.text.length)) (i + skip r + t.text.length) :=
    scanF_fuel _ _ _ _ (by omega) (by simp only [List.length_drop]; omega)
  rw [e]
  simp only [scanA, scanF]
  cases hd : r.drop (skip r) with
  | nil => have := congrArg List.length hd; simp at this; omega
  | cons c r' =>
    rw [hd] at hb
    simp only [hb]
    rw [← hd, List.drop_drop]

/-- Scan's answer: tokens, error, place, rule -/
def scanRes (s : List UInt8) : List Tok × Nat × Nat × Nat :=
  if 65536 < s.length then ([], 4, 0, 0) else match (front s).2 with
    | none => ((front s).1, 0, 0, 0)
    | some (rule, p) => ([], 20, p, rule)
end LexS


namespace Go.Proofs.YtnmhlpnapgojjaaGreatDoor
open Go.RowKit Sx LexS _root_.Go.Proofs.Tryz
theorem Tryz.mixed : Tryz.prog.follows .mixedOrders = true := by kernel_rfl

theorem digit_any (c : UInt8) (w : World) : Ret Tryz.prog 113 [.int .u8 (c.toNat : Int)] w fun v w' => v = .bool (isDigit c) ∧ w' = w := by
 refine ret_of [_] func113 rfl ntmps113 rfl ?_
 have st := St.init w []
 refine sr ?_
 refine ya ?_
 refine et (vk1 0 (sr ?_))
 refine ym ?_
 refine vy (y_geq rfl rfl) ?_
 refine vmb ?_ ?_
 intro hg5
 try simp only [dn] at hg5
 refine ym ?_
 refine vy (y_leq rfl rfl) ?_
 refine ypt ?_
 rotate_left
 intro hg5
 try simp only [dn] at hg5
 iterate 2 refine vsk ?_
 refine ypf ?_
 all_goals
  refine ya ?_
  refine et (vk1 2 (vc_ret ?_))
  refine vr1 st results113 ?_
  exact ⟨by rw [Value.bool.injEq, Bool.eq_iff_iff]; simp only [isDigit, decide_eq_true_eq, true_iff, Bool.false_eq_true, false_iff]; omega, rfl⟩
theorem letter_any (c : UInt8) (w : World) : Ret Tryz.prog 115 [.int .u8 (c.toNat : Int)] w fun v w' => v = .bool (isLetter c) ∧ w' = w := by
 refine ret_of [_] func115 rfl ntmps115 rfl ?_
 have st := St.init w []
 refine sr ?_
 refine ya ?_
 refine et (vk1 0 (sr ?_))
 refine ym ?_
 refine vy (y_geq rfl rfl) ?_
 refine vmb ?_ ?_
 focus
  intro hg5
  try simp only [dn] at hg5
  refine ym ?_
  refine vy (y_leq rfl rfl) ?_
  refine ypt ?_
  refine vmb ?_ ?_
  intro hg9
  try simp only [dn] at hg9
  iterate 6 refine vsk ?_
  refine ypt ?_
  refine ym ?_
  iterate 2 refine vsk ?_
  refine ypt ?_
  rotate_left
  focus
   intro hg9
   try simp only [dn] at hg9
   refine ym ?_
   refine vy (y_geq rfl rfl) ?_
   refine vmb ?_ ?_
   focus
    intro hg12
    try simp only [dn] at hg12
    refine ym ?_
    refine vy (y_leq rfl rfl) ?_
    refine ypt ?_
    refine ypf ?_
    refine vmb ?_ ?_
    intro hg17
    try simp only [dn] at hg17
    iterate 2 refine vsk ?_
    refine ypt ?_
    rotate_left
    intro hg17
    try simp only [dn] at hg17
    refine ym ?_
    refine vy (y_eqi rfl rfl) ?_
    refine ypf ?_
   rotate_left 2
   intro hg12
   try simp only [dn] at hg12
   iterate 2 refine vsk ?_
   iterate 2 refine ypf ?_
   iterate 2 refine ym ?_
   refine vy (y_eqi rfl rfl) ?_
   refine ypf ?_
 rotate_left 4
 focus
  intro hg5
  try simp only [dn] at hg5
  iterate 2 refine vsk ?_
  refine ypf ?_
  iterate 2 refine ym ?_
  refine vy (y_geq rfl rfl) ?_
  refine vmb ?_ ?_
  focus
   intro hg12
   try simp only [dn] at hg12
   refine ym ?_
   refine vy (y_leq rfl rfl) ?_
   refine ypt ?_
   refine ypf ?_
   refine vmb ?_ ?_
   intro hg17
   try simp only [dn] at hg17
   iterate 2 refine vsk ?_
   refine ypt ?_
   rotate_left
   intro hg17
   try simp only [dn] at hg17
   refine ym ?_
   refine vy (y_eqi rfl rfl) ?_
   refine ypf ?_
  rotate_left 2
  intro hg12
  try simp only [dn] at hg12
  iterate 2 refine vsk ?_
  iterate 2 refine ypf ?_
  iterate 2 refine ym ?_
  refine vy (y_eqi rfl rfl) ?_
  refine ypf ?_
 all_goals
  refine ya ?_
  refine et (vk1 2 (vc_ret ?_))
  refine vr1 st results115 ?_
  exact ⟨by rw [Value.bool.injEq, Bool.eq_iff_iff]; simp only [isLetter, decide_eq_true_eq, true_iff, Bool.false_eq_true, false_iff]; omega, rfl⟩
theorem blank_any (c : UInt8) (w : World) : Ret Tryz.prog 226 [.int .u8 (c.toNat : Int)] w fun v w' => v = .bool (isBlank c) ∧ w' = w := by
 refine ret_of [_] func226 rfl ntmps226 rfl ?_
 have st := St.init w []
 refine sr ?_
 refine ya ?_
 refine et (vk1 0 (sr ?_))
 refine ym ?_
 refine vy (y_eqi rfl rfl) ?_
 refine vmb ?_ ?_
 intro hg5
 try simp only [dn] at hg5
 iterate 2 refine vsk ?_
 refine ypt ?_
 refine ym ?_
 iterate 2 refine vsk ?_
 refine ypt ?_
 refine ym ?_
 iterate 2 refine vsk ?_
 refine ypt ?_
 rotate_left
 focus
  intro hg5
  try simp only [dn] at hg5
  refine ym ?_
  refine vy (y_eqi rfl rfl) ?_
  refine ypf ?_
  refine vmb ?_ ?_
  intro hg9
  try simp only [dn] at hg9
  iterate 2 refine vsk ?_
  refine ypt ?_
  refine ym ?_
  iterate 2 refine vsk ?_
  refine ypt ?_
  rotate_left
  focus
   intro hg9
   try simp only [dn] at hg9
   refine ym ?_
   refine vy (y_eqi rfl rfl) ?_
   refine ypf ?_
   refine vmb ?_ ?_
   intro hg13
   try simp only [dn] at hg13
   iterate 2 refine vsk ?_
   refine ypt ?_
   rotate_left
   intro hg13
   try simp only [dn] at hg13
   refine ym ?_
   refine vy (y_eqi rfl rfl) ?_
   refine ypf ?_
 all_goals
  refine ya ?_
  refine et (vk1 2 (vc_ret ?_))
  refine vr1 st results226 ?_
  exact ⟨by rw [Value.bool.injEq, Bool.eq_iff_iff]; simp only [isBlank, decide_eq_true_eq, true_iff, Bool.false_eq_true, false_iff]; omega, rfl⟩
end Go.Proofs.YtnmhlpnapgojjaaGreatDoor


namespace Go.Proofs.YtnmhlpnapgojjaaGreatDoor
open Go.RowKit Sx LexS _root_.Go.Proofs.Tryz

set_option maxHeartbeats 1000000 in
theorem word_any (l : List UInt8) (w : World) : Ret Tryz.prog 114 [str l] w fun v w' => v = .bool (isWord l) ∧ w' = w := by
 refine ret_of [_] func114 rfl ntmps114 rfl ?_
 have st := St.init w []
 refine sr ?_
 refine ya ?_
 refine et (vk1 0 (vc_seq (sr ?_)))
 refine ym ?_
 refine et (vk1 3 (vc_block (vc_seq (sr ?_))))
 refine vy (y_eqs rfl rfl) ?_
 refine ya ?_
 refine et (vk2 3 4 ?_)
 refine vif ?_ ?_
 intro hc4
 try simp only [dn] at hc4
 refine kt (vk1 4 ?_)
 refine vc_ift rfl ?_
 refine sr ?_
 refine ya ?_
 refine et (vk1 2 (vc_ret (vq_block_ret (vq_then_ret ?_))))
 rotate_left
 focus
  intro hc4
  try simp only [dn] at hc4
  refine sr ?_
  refine vy (y_eqs rfl rfl) ?_
  refine ya ?_
  refine et (vk2 3 4 ?_)
  refine vif ?_ ?_
  intro hc4
  try simp only [dn] at hc4
  refine kt (vk1 4 ?_)
  refine vc_ift rfl ?_
  refine sr ?_
  refine ya ?_
  refine et (vk1 2 (vc_ret (vq_block_ret (vq_then_ret ?_))))
  rotate_left
  focus
   intro hc4
   try simp only [dn] at hc4
   refine sr ?_
   refine vy (y_eqs rfl rfl) ?_
   refine ya ?_
   refine et (vk2 3 4 ?_)
   refine vif ?_ ?_
   intro hc4
   try simp only [dn] at hc4
   refine kt (vk1 4 ?_)
   refine vc_ift rfl ?_
   refine sr ?_
   refine ya ?_
   refine et (vk1 2 (vc_ret (vq_block_ret (vq_then_ret ?_))))
   rotate_left
   focus
    intro hc4
    try simp only [dn] at hc4
    refine sr ?_
    refine vy (y_eqs rfl rfl) ?_
    refine ya ?_
    refine et (vk2 3 4 ?_)
    refine vif ?_ ?_
    intro hc4
    try simp only [dn] at hc4
    refine kt (vk1 4 ?_)
    refine vc_ift rfl ?_
    refine sr ?_
    refine ya ?_
    refine et (vk1 2 (vc_ret (vq_block_ret (vq_then_ret ?_))))
    rotate_left
    focus
     intro hc4
     try simp only [dn] at hc4
     refine sr ?_
     refine vy (y_eqs rfl rfl) ?_
     refine ya ?_
     refine et (vk2 3 4 ?_)
     refine vif ?_ ?_
     intro hc4
     try simp only [dn] at hc4
     refine kt (vk1 4 ?_)
     refine vc_ift rfl ?_
     refine sr ?_
     refine ya ?_
     refine et (vk1 2 (vc_ret (vq_block_ret (vq_then_ret ?_))))
     rotate_left
     focus
      intro hc4
      try simp only [dn] at hc4
      refine sr ?_
      refine vy (y_eqs rfl rfl) ?_
      refine ya ?_
      refine et (vk2 3 4 ?_)
      refine vif ?_ ?_
      intro hc4
      try simp only [dn] at hc4
      refine kt (vk1 4 ?_)
      refine vc_ift rfl ?_
      refine sr ?_
      refine ya ?_
      refine et (vk1 2 (vc_ret (vq_block_ret (vq_then_ret ?_))))
      rotate_left
      focus
       intro hc4
       try simp only [dn] at hc4
       refine sr ?_
       refine vy (y_eqs rfl rfl) ?_
       refine ya ?_
       refine et (vk2 3 4 ?_)
       refine vif ?_ ?_
       intro hc4
       try simp only [dn] at hc4
       refine kt (vk1 4 ?_)
       refine vc_ift rfl ?_
       refine sr ?_
       refine ya ?_
       refine et (vk1 2 (vc_ret (vq_block_ret (vq_then_ret ?_))))
       rotate_left
       focus
        intro hc4
        try simp only [dn] at hc4
        refine sr ?_
        refine vy (y_eqs rfl rfl) ?_
        refine ya ?_
        refine et (vk2 3 4 ?_)
        refine vif ?_ ?_
        intro hc4
        try simp only [dn] at hc4
        refine kt (vk1 4 ?_)
        refine vc_ift rfl ?_
        refine sr ?_
        refine ya ?_
        refine et (vk1 2 (vc_ret (vq_block_ret (vq_then_ret ?_))))
        rotate_left
        focus
         intro hc4
         try simp only [dn] at hc4
         refine sr ?_
         refine vy (y_eqs rfl rfl) ?_
         refine ya ?_
         refine et (vk2 3 4 ?_)
         refine vif ?_ ?_
         intro hc4
         try simp only [dn] at hc4
         refine kt (vk1 4 ?_)
         refine vc_ift rfl ?_
         refine sr ?_
         refine ya ?_
         refine et (vk1 2 (vc_ret (vq_block_ret (vq_then_ret ?_))))
         rotate_left
         focus
          intro hc4
          try simp only [dn] at hc4
          refine vc_region ?_
          refine vy (y_eqs rfl rfl) ?_
          refine ya ?_
          refine et (vk1 4 ?_)
          refine vif ?_ ?_
          intro hc4
          try simp only [dn] at hc4
          refine sr ?_
          refine ya ?_
          refine et (vk1 2 (vc_ret (vq_block_ret (vq_then_ret ?_))))
          rotate_left
          intro hc4
          try simp only [dn] at hc4
          refine vc_code_skip (vq_block (vq_then (vc_keep [] trivial (sr ?_))))
          refine ya ?_
          refine et (vk1 2 (vc_ret ?_))
 all_goals
  refine vr1 st results114 ?_
  refine ⟨?_, rfl⟩
  rw [Value.bool.injEq]
  first
  | (symm; simp only [isWord, decide_eq_true_eq]; simp only [wShared, wLock, wThread, wLocal, wIf, wElse, wWhile, wPrint, wSkip, wSwap]; simp only [*, true_or, or_true]; done)
  | (symm; simp only [isWord, decide_eq_false_iff_not]; simp only [wShared, wLock, wThread, wLocal, wIf, wElse, wWhile, wPrint, wSkip, wSwap]; simp only [*, or_self, not_false_eq_true])
end Go.Proofs.YtnmhlpnapgojjaaGreatDoor

