/- A part of the proof: contracts of functions and plain laws; each theorem says its own conditions. -/
import Derived.Maps.RangeRun
import Derived.Test.YtnmhlpnapgojjaaGreatDoorPrettyNamesK3
import Derived.Test.YtnmhlpnapgojjaaGreatDoorPrettyNamesK1
import Derived.Test.YtnmhlpnapgojjaaGreatDoorPrettyNamesK2
set_option linter.unusedVariables false
set_option linter.unusedSimpArgs false
/- A map that counts words: its keys in the order of their birth; a range over it. -/
namespace Sx
open Go Go.RowKit

abbrev Wd := List UInt8
def insK (s : Wd) (ks : List Wd) : List Wd := if s ∈ ks then ks else ks ++ [s]
theorem insK_nodup {s : Wd} {ks : List Wd} (h : ks.Nodup) : (insK s ks).Nodup := by
  unfold insK; split
  · exact h
  · rename_i hs
    rw [List.nodup_append]; exact ⟨h, by simp, by rintro x hx y hy; simp at hy; subst hy; intro e; subst e; exact hs hx⟩
theorem mem_insK {s x : Wd} {ks : List Wd} : x ∈ insK s ks ↔ x = s ∨ x ∈ ks := by
  unfold insK; split
  · rename_i hs; constructor
    · exact fun h => .inr h
    · rintro (rfl | h); exact hs; exact h
  · simp [or_comm]

/-- what the entries of such a map are -/
structure Ents (es : List MapEntry) (ks : List Wd) : Prop where
  key : es.map (·.key) = ks.map str
  val : ∀ e ∈ es, ∃ c, e.val = .int .i64 c
  born : ∀ (i : Nat) (e : MapEntry), es[i]? = some e → e.born = i

def MapK (w : World) (b : Nat) (ks : List Wd) : Prop := ∃ es : Array MapEntry, w.heap[b]? = some (.map es es.size) ∧ Ents es.toList ks

theorem MapK.lt {w : World} {b : Nat} {ks : List Wd} (h : MapK w b ks) : b < w.heap.size := by obtain ⟨es, h1, _⟩ := h; exact (Array.getElem?_eq_some_iff.1 h1).1
theorem Loc_MapK (b : Nat) (ks : List Wd) : Loc [b] (fun w => MapK w b ks) := fun w w' _ hk ⟨es, h1, h2⟩ => ⟨es, (hk b (by simp)).trans h1, h2⟩

theorem bytes_beq (s t : Wd) : ((⟨s.toArray⟩ : ByteArray) == ⟨t.toArray⟩) = decide (s = t) := by
  show (s.toArray == t.toArray) = _
  rw [Bool.eq_iff_iff]; simp

theorem findNow_no {s : Wd} : ∀ (es : List MapEntry) (ks : List Wd) (i : Nat), es.map (·.key) = ks.map str → s ∉ ks → Instr.findNow .string (str s) es i = some none
  | [], ks, i, h, hs => rfl
  | e :: es, [], i, h, hs => by simp at h
  | e :: es, k :: ks, i, h, hs => by
    simp only [List.map_cons, List.cons.injEq] at h
    simp only [Instr.findNow, h.1, Instr.sameNow, bytes_beq]
    have : s ≠ k := fun e => hs (by simp [e])
    simp only [this, decide_false]
    exact findNow_no es ks _ h.2 (fun h => hs (by simp [h]))
theorem findNow_yes {s : Wd} : ∀ (es : List MapEntry) (ks : List Wd) (i : Nat), es.map (·.key) = ks.map str → s ∈ ks → ∃ j e, es[j]? = some e ∧ e.key = str s ∧ Instr.findNow .string (str s) es i = some (some (i + j, e.val))
  | [], ks, i, h, hs => by cases ks <;> simp at h hs
  | e :: es, [], i, h, hs => by simp at h
  | e :: es, k :: ks, i, h, hs => by
    simp only [List.map_cons, List.cons.injEq] at h
    by_cases hk : s = k
    · subst hk
      exact ⟨0, e, rfl, h.1, by simp [Instr.findNow, h.1, Instr.sameNow, bytes_beq]⟩
    · obtain ⟨j, e', h1, h2, h3⟩ := findNow_yes es ks (i + 1) h.2 (by simpa [hk] using hs)
      refine ⟨j + 1, e', by simpa using h1, h2, ?_⟩
      simp only [Instr.findNow, h.1, Instr.sameNow, bytes_beq, hk, decide_false]
      rw [h3, Nat.add_assoc, Nat.add_comm 1 j]

section
variable {P : Program} {n : Fr} {L : List Oper} {Q : Exit → Act → World → Prop} {kn : Kn} {w0 w : World} {M : List Nat} {hs : List Res} {N : Act → World → Prop}
variable {d ty : Nat} {pos : String} {aft : Array Edge} {g : Option (Nat × Bool)}

theorem checkKey_str {k : Nat} (hk : P.underlying k = some .string) (em : Bool) (s : Wd) (w : World) : (Instr.checkKey em 10000 k (str s)).run P w = .ok () w := by
  show (Instr.checkKey em (9999 + 1) k (str s)).run P w = _
  unfold Instr.checkKey
  simp [Sem.run_bind, underlying, Sem.run, hk, Result.andThen, str]

theorem findKey_str {k : Nat} (hk : P.underlying k = some .string) {s : Wd} {es : List MapEntry} {r : Option (Nat × Value)} (h : Instr.findNow .string (str s) es 0 = some r) (w : World) : (Instr.findKey k (str s) es).run P w = .ok r w := by
  simp [Instr.findKey, Sem.run_bind, underlying, Sem.run, hk, Result.andThen, h]

theorem run_lookupK {T k e b : Nat} {s : Wd} {ks : List Wd} (hm : MapK w b ks) (ht : P.underlying T = some (.map k e)) (hk : P.underlying k = some .string) (hz : ∀ w, (zeroValue e).run P w = .ok (.int .i64 0) w) :
    ∃ c, (Instr.lookup T (.map (some b)) (str s) false).run P w = .ok (.int .i64 c) w := by
  obtain ⟨es, hb, hE⟩ := hm
  by_cases hs : s ∈ ks
  · obtain ⟨j, e', h1, h2, h3⟩ := findNow_yes (s := s) es.toList ks 0 hE.key hs
    obtain ⟨c, hc⟩ := hE.val e' (List.mem_of_getElem? h1)
    refine ⟨c, ?_⟩
    simp [Instr.lookup, getObj, Sem.run_bind, underlying, Sem.run, ht, hb, Result.andThen, checkKey_str hk, findKey_str hk h3, hc]
  · refine ⟨0, ?_⟩
    simp [Instr.lookup, getObj, Sem.run_bind, underlying, Sem.run, ht, hb, Result.andThen, checkKey_str hk, findKey_str hk (findNow_no es.toList ks 0 hE.key hs), hz]

theorem setObj_chg {b : Nat} {o o' : Obj} (hb : w.heap[b]? = some o) (hn : ∀ c e f, o ≠ .cells c e f) : (setObj b o').run P w = .ok () (ChangeMaps.setBlock w b o') ∧ Chg [b] w (ChangeMaps.setBlock w b o') ∧ (ChangeMaps.setBlock w b o').heap[b]? = some o' := by
  have hlt := (Array.getElem?_eq_some_iff.1 hb).1
  refine ⟨?_, ⟨rfl, rfl, rfl, by simp [ChangeMaps.setBlock], fun i _ hi => ?_⟩, ?_⟩
  · simp only [setObj, Sem.run, hb, ChangeMaps.setBlock]
    try (cases o <;> first | rfl | exact absurd rfl (hn _ _ _))
  · simp only [ChangeMaps.setBlock]; rw [Array.getElem?_setIfInBounds_ne (fun e => hi (by simp [e]))]
  · simp only [ChangeMaps.setBlock]; rw [Array.getElem?_setIfInBounds_self_of_lt hlt]

theorem run_updateK {T k e b : Nat} {s : Wd} {c : Int} {ks : List Wd} (hm : MapK w b ks) (ht : P.underlying T = some (.map k e)) (hk : P.underlying k = some .string) :
    ∃ w', (Instr.mapUpdate T (.map (some b)) (str s) (.int .i64 c)).run P w = .ok () w' ∧ MapK w' b (insK s ks) ∧ Chg [b] w w' := by
  obtain ⟨es, hb, hE⟩ := hm
  by_cases hs : s ∈ ks
  · obtain ⟨j, e', h1, h2, h3⟩ := findNow_yes (s := s) es.toList ks 0 hE.key hs
    obtain ⟨q1, q2, q3⟩ := setObj_chg (P := P) (o' := .map (es.modify j fun x => { x with key := str s, val := .int .i64 c }) es.size) hb (by simp)
    refine ⟨_, ?_, ⟨es.modify j fun x => { x with key := str s, val := .int .i64 c }, (by rw [q3]; simp), ?_⟩, q2⟩
    · have hg : es[j]? = some e' := by simpa using h1
      simp only [Nat.zero_add] at h3
      simp [Instr.mapUpdate, getObj, Sem.run_bind, underlying, Sem.run, ht, hb, Result.andThen, checkKey_str hk, findKey_str hk h3, hg, h2, Instr.keyThatStays, Instr.sameBits, str, bytes_beq]
      exact q1
    · simp only [insK, hs, if_true]
      have hl : (es.modify j fun x => { x with key := str s, val := .int .i64 c }).toList = es.toList.modify j (fun x => { x with key := str s, val := .int .i64 c }) := by simp
      rw [hl]
      refine ⟨?_, ?_, ?_⟩
      · rw [← hE.key]
        apply List.ext_getElem?
        intro i
        simp only [List.getElem?_map, List.getElem?_modify]
        by_cases hij : j = i
        · subst hij; rw [h1]; simp [h2]
        · simp [hij]
      · intro x hx
        obtain ⟨i, hi⟩ := List.getElem?_of_mem hx
        rw [List.getElem?_modify] at hi
        by_cases hij : j = i
        · subst hij; rw [h1] at hi; simp at hi; exact ⟨c, by rw [← hi]⟩
        · simp only [hij, if_false, Option.map_id_fun', id] at hi; exact hE.val x (List.mem_of_getElem? (by simpa using hi))
      · intro i x hi
        rw [List.getElem?_modify] at hi
        by_cases hij : j = i
        · subst hij; rw [h1] at hi; simp at hi; rw [← hi]; exact (hE.born j e' h1 : e'.born = j)
        · simp only [hij, if_false, Option.map_id_fun', id] at hi; exact hE.born i x (by simpa using hi)
  · obtain ⟨q1, q2, q3⟩ := setObj_chg (P := P) (o' := .map (es.push { key := str s, val := .int .i64 c, born := es.size }) (es.size + 1)) hb (by simp)
    refine ⟨_, ?_, ⟨es.push { key := str s, val := .int .i64 c, born := es.size }, (by rw [q3]; simp), ?_⟩, q2⟩
    · simp [Instr.mapUpdate, getObj, Sem.run_bind, underlying, Sem.run, ht, hb, Result.andThen, checkKey_str hk, findKey_str hk (findNow_no es.toList ks 0 hE.key hs)]
      exact q1
    · simp only [insK, hs, if_false, Array.toList_push]
      refine ⟨by simp [hE.key], ?_, ?_⟩
      · intro x hx
        rcases List.mem_append.1 hx with h | h
        · exact hE.val x h
        · simp at h; exact ⟨c, by rw [h]⟩
      · intro i x hi
        rcases Nat.lt_or_ge i es.toList.length with h | h
        · rw [List.getElem?_append_left h] at hi; exact hE.born i x hi
        · rw [List.getElem?_append_right h] at hi
          cases hd : i - es.toList.length with
          | zero => rw [hd] at hi; simp at hi; rw [← hi]; simp at h hd ⊢; omega
          | succ m => rw [hd] at hi; simp at hi

/-! ## the range -/
/-- a range over the map of 'b' by the iterator 'r': the words 'dn' have come -/
def IterK (w : World) (b r : Nat) (ks dn : List Wd) : Prop := ∃ (es : Array MapEntry) (seen : Array Nat), w.heap[b]? = some (.map es es.size) ∧ Ents es.toList ks ∧ w.heap[r]? = some (.mapIter (some b) es.size seen es.size) ∧
  seen.toList.Nodup ∧ seen.toList.map (fun i => ks[i]?) = dn.map some

theorem Loc_IterK (b r : Nat) (ks dn : List Wd) : Loc [b, r] (fun w => IterK w b r ks dn) := fun w w' _ hk ⟨es, seen, h1, h2, h3, h4⟩ => ⟨es, seen, (hk b (by simp)).trans h1, h2, (hk r (by simp)).trans h3, h4⟩
theorem run_rangeK {T k e b : Nat} {ks : List Wd} (hm : MapK w b ks) (ht : P.underlying T = some (.map k e)) :
    ∃ w', (Instr.range T (.map (some b))).run P w = .ok (.pointer (some ⟨w.heap.size, 0, none⟩)) w' ∧ IterK w' b w.heap.size ks [] ∧ Chg [] w w' ∧ w'.heap.size = w.heap.size + 1 := by
  obtain ⟨es, hb, hE⟩ := hm
  have hlt := (Array.getElem?_eq_some_iff.1 hb).1
  refine ⟨w.alloc (.mapIter (some b) es.size #[] es.size), ?_, ⟨es, #[], ?_, hE, heap_alloc w _, by simp, by simp⟩, Chg.alloc w _, by simp⟩
  · have h1 : (getObj b).run P w = .ok (.map es es.size) w := by simp [getObj, Sem.run, hb]
    have h2 : (underlying T).run P w = .ok (.map k e) w := by simp [underlying, Sem.run, ht]
    simp only [Instr.range, Sem.run_bind, h2, Result.andThen_ok, h1]
    rfl
  · exact ((Chg.alloc w _).block b hlt (by simp)).trans hb

theorem perm_range {n : Nat} : ∀ (l : List Nat), l.Nodup → (∀ i, i ∈ l ↔ i < n) → l.Perm (List.range n) := by
  intro l h1 h2
  exact (List.perm_ext_iff_of_nodup h1 List.nodup_range).2 (fun i => by rw [h2, List.mem_range])

theorem filterMap_range : ∀ (ks : List Wd), (List.range ks.length).filterMap (fun i => ks[i]?) = ks
  | [] => rfl
  | x :: l => by
    rw [List.length_cons, List.range_succ_eq_map, List.filterMap_cons]
    simp only [List.getElem?_cons_zero, List.filterMap_map, Function.comp_def, List.getElem?_cons_succ]
    rw [filterMap_range l]

theorem nodup_lt_len : ∀ (n : Nat) (l : List Nat), l.Nodup → (∀ x ∈ l, x < n) → l.length ≤ n
  | 0, l, _, h => by
    cases l with
    | nil => simp
    | cons a l => exact absurd (h a (by simp)) (by omega)
  | n + 1, l, h1, h2 => by
    have := nodup_lt_len n (l.erase n) (h1.erase n) (fun x hx => by
      have := h1.mem_erase_iff.1 hx
      have := h2 x this.2
      omega)
    rw [List.length_erase] at this
    split at this <;> omega

theorem run_nextK {b r ty : Nat} {ks dn : List Wd} (h : IterK w b r ks dn) (hne : b ≠ r) :
    ∃ t rest dn' w', (Instr.next (.pointer (some ⟨r, 0, none⟩)) false ty).run P w = .ok (.tuple (Value.bool t :: rest).toArray) w' ∧ IterK w' b r ks dn' ∧ Chg [r] w w' ∧
      (t = false → dn' = dn ∧ dn.Perm ks) ∧ (t = true → ∃ s, dn' = dn ++ [s] ∧ dn.length < ks.length) := by
  obtain ⟨es, seen, hb, hE, hr, hn, hm⟩ := h
  have hsz : es.size = ks.length := by have := congrArg List.length hE.key; simpa using this
  have bornE : ∀ e ∈ es.toList, ∃ i, es.toList[i]? = some e ∧ e.born = i := fun e he => by
    obtain ⟨i, hi⟩ := List.getElem?_of_mem he
    exact ⟨i, hi, hE.born i e hi⟩
  have seenlt : ∀ i ∈ seen.toList, i < ks.length := fun i hi => by
    have : ks[i]? ∈ dn.map some := by rw [← hm]; exact List.mem_map.2 ⟨i, hi, rfl⟩
    obtain ⟨x, _, hx⟩ := List.mem_map.1 this
    exact (List.getElem?_eq_some_iff.1 hx.symm).1
  have hdl : seen.toList.length = dn.length := by have := congrArg List.length hm; simpa using this
  rcases run_next_at (P := P) w ty r b es.size es.size seen es es.size hr hb (fun x hx => by
      obtain ⟨i, h1, h2⟩ := bornE x hx
      rw [h2]; exact (List.getElem?_eq_some_iff.1 h1).1) (Nat.le_refl _) with ⟨h0, hrun⟩ | ⟨e, he, w1, hw1, hrun⟩
  · refine ⟨false, [], dn, w, by simpa using hrun, ⟨es, seen, hb, hE, hr, hn, hm⟩, Chg.refl _ _, fun _ => ⟨rfl, ?_⟩, by simp⟩
    have hall : ∀ i, i < ks.length → i ∈ seen.toList := fun i hi => by
      have hi' : i < es.toList.length := by simpa [hsz] using hi
      have : (leftOf es seen) = #[] := Array.eq_empty_of_size_eq_zero h0
      unfold leftOf at this
      rw [Array.filter_eq_empty_iff] at this
      have q := this es.toList[i] (Array.mem_toList_iff.1 (List.getElem_mem hi'))
      have hb' := hE.born i _ (List.getElem?_eq_getElem hi')
      simp at q
      rw [← hb']; simpa using q
    have hp := perm_range (n := ks.length) seen.toList hn (fun i => ⟨seenlt i, hall i⟩)
    have e1 : dn = seen.toList.filterMap (fun i => ks[i]?) := by
      have := congrArg (List.filterMap id) hm
      simpa [List.filterMap_map] using this.symm
    rw [e1]
    have := hp.filterMap (fun i => ks[i]?)
    rwa [filterMap_range] at this
  · obtain ⟨he1, he2⟩ := mem_left he
    obtain ⟨i, hi, hib⟩ := bornE e he1
    have hil : i < ks.length := by have := (List.getElem?_eq_some_iff.1 hi).1; simpa [hsz] using this
    have hk : ks[i]? = some ks[i] := List.getElem?_eq_getElem hil
    have hr1 : w1.heap[r]? = some (.mapIter (some b) es.size seen es.size) := by rcases hw1 with rfl | rfl <;> exact hr
    have hb1 : w1.heap[b]? = some (.map es es.size) := by rcases hw1 with rfl | rfl <;> exact hb
    have hc1 : Chg [r] w w1 := by rcases hw1 with rfl | rfl; exact Chg.refl _ _; exact (Chg.drew w).of_nil
    obtain ⟨q1, q2, q3⟩ := setObj_chg (P := P) (o' := .mapIter (some b) es.size (seen.push e.born) es.size) hr1 (by simp)
    have hni : i ∉ seen.toList := by rw [hib] at he2; simpa using he2
    have hnd : (seen.push e.born).toList.Nodup := by
      rw [Array.toList_push, List.nodup_append]
      exact ⟨hn, by simp, by rintro x hx y hy; simp at hy; subst hy; rw [hib]; intro ee; subst ee; exact hni hx⟩
    refine ⟨true, [e.key, e.val], dn ++ [ks[i]], _, by simpa using hrun, ⟨es, seen.push e.born, (q2.block b (Array.getElem?_eq_some_iff.1 hb1).1 (by simpa using hne)).trans hb1, hE, q3, hnd, ?_⟩, hc1.trans q2, by simp, fun _ => ⟨_, rfl, ?_⟩⟩
    · rw [Array.toList_push, List.map_append, hm, List.map_append]; simp [hib]
    · rw [← hdl]
      have hsub : (seen.push e.born).toList.length ≤ ks.length := by
        exact nodup_lt_len _ _ hnd (fun x hx => by
          rw [Array.toList_push] at hx
          rcases List.mem_append.1 hx with h | h
          · exact seenlt x h
          · simp at h; rw [h, hib]; exact hil)
      simp at hsub ⊢; omega

theorem run_entryK {b r : Nat} {ks dn : List Wd} {s : Wd} (h : IterK w b r ks (dn ++ [s])) : ∃ c, (Instr.entry (.pointer (some ⟨r, 0, none⟩))).run P w = .ok (.tuple #[str s, .int .i64 c]) w := by
  obtain ⟨es, seen, hb, hE, hr, hn, hm⟩ := h
  have hne : seen.toList ≠ [] := by intro e; rw [e] at hm; simp at hm
  obtain ⟨l, i, hl⟩ : ∃ l i, seen.toList = l ++ [i] := ⟨_, _, (List.dropLast_concat_getLast hne).symm⟩
  rw [hl] at hm
  simp only [List.map_append, List.map_cons, List.map_nil] at hm
  obtain ⟨hm1, hm2⟩ := List.append_inj' hm rfl
  simp only [List.cons.injEq, and_true] at hm2
  have hkl : i < ks.length := (List.getElem?_eq_some_iff.1 hm2).1
  have hsz : es.size = ks.length := by have := congrArg List.length hE.key; simpa using this
  have hei : i < es.toList.length := by simpa [hsz] using hkl
  have hg := List.getElem?_eq_getElem hei
  have hbn := hE.born i _ hg
  have hkey : (es.toList[i]).key = str s := by
    have := congrArg (fun l => l[i]?) hE.key
    simp only [List.getElem?_map, hg, hm2, Option.map_some] at this
    exact Option.some.inj this
  obtain ⟨c, hc⟩ := hE.val _ (List.getElem_mem hei)
  refine ⟨c, ?_⟩
  have hnd : (es.toList.map (·.born)).Nodup := by
    have : es.toList.map (·.born) = List.range es.toList.length := by
      apply List.ext_getElem?
      intro j
      rw [List.getElem?_map]
      by_cases hj : j < es.toList.length
      · rw [List.getElem?_eq_getElem hj, List.getElem?_range hj]; exact congrArg some (hE.born j _ (List.getElem?_eq_getElem hj))
      · rw [List.getElem?_eq_none (by omega), List.getElem?_eq_none (by simpa using hj)]; rfl
    rw [this]; exact List.nodup_range
  have hs : seen = (⟨l⟩ : Array Nat).push (es.toList[i]).born := by
    apply Array.toList_inj.1; rw [hl, Array.toList_push, hbn]
  have := run_entry_at (P := P) w r b es.size ⟨l⟩ es es.size es.toList[i] (by rw [← hs]; exact hr) hb (List.getElem_mem hei) hnd
  rw [this, hkey, hc]

/-! ## the operations -/
theorem e_mkm (st : St w0 M hs w) {T : Nat} (hw : gd L kn g = some true) (hd : okDst n (some d) = true)
    (next : ∀ b w', w0.heap.size ≤ b → St w0 M (.tree [b] (fun w => MapK w b []) :: hs) w' → vN n N ((d, .map (some b)) :: kn) w') : vS P n L Q (⟨some d, .makeMap T none, ty, pos, aft, g⟩) N kn w :=
  e_run (v := .map (some w.heap.size)) (w' := w.alloc (.map #[] 0)) hw hd (fun a ha => by
    simp only [execOp, Option.map_none]; rfl) (next _ _ st.chg.size (st.pushR (Chg.alloc w _) ⟨⟨#[], heap_alloc w _, by simp, by simp, by simp⟩, by simp, Loc_MapK _ _⟩ (by simp [Res.at?])))

theorem e_lk (st : St w0 M hs w) (i : Nat) {T k e b : Nat} {x y : Operand} {s : Wd} {ks : List Wd} (hw : gd L kn g = some true) (hd : okDst n (some d) = true) (hx : evO kn x = some (.map (some b))) (hy : evO kn y = some (str s))
    (hi : nth hs i = some (.tree [b] (fun w => MapK w b ks))) (ht : P.underlying T = some (.map k e)) (hk : P.underlying k = some .string) (hz : ∀ w, (zeroValue e).run P w = .ok (.int .i64 0) w)
    (next : ∀ c, vN n N ((d, .int .i64 c) :: kn) w) : vS P n L Q (⟨some d, .lookup T x y false, ty, pos, aft, g⟩) N kn w := by
  obtain ⟨c, hc⟩ := run_lookupK (P := P) (s := s) (st.res hi).1 ht hk hz
  exact e_run (v := .int .i64 c) (w' := w) hw hd (fun a ha => by simp only [execOp, ha.ev hx, ha.ev hy, Sem.run_bind, hc, Result.andThen_ok]; rfl) (next c)

theorem e_mu (st : St w0 M hs w) (i : Nat) {T k e b : Nat} {x y z : Operand} {s : Wd} {c : Int} {ks : List Wd} (hw : gd L kn g = some true) (hx : evO kn x = some (.map (some b))) (hy : evO kn y = some (str s)) (hv : evO kn z = some (.int .i64 c))
    (hi : nth hs i = some (.tree [b] (fun w => MapK w b ks))) (hm : b ∈ M ∨ w0.heap.size ≤ b) (ht : P.underlying T = some (.map k e)) (hk : P.underlying k = some .string)
    (next : ∀ w', St w0 M (setNth hs i (.tree [b] (fun w => MapK w b (insK s ks)))) w' → vN n N kn w') : vS P n L Q (⟨none, .mapUpdate T x y z, ty, pos, aft, g⟩) N kn w := by
  obtain ⟨w', h1, h2, h3⟩ := run_updateK (P := P) (s := s) (c := c) (st.res hi).1 ht hk
  exact e_do (w' := w') hw rfl (fun a ha => by simp only [execOp, ha.ev hx, ha.ev hy, ha.ev hv, Sem.run_bind, h1, Result.andThen_ok]; rfl)
    (next w' (st.turn hi rfl rfl h3 hm ⟨h2, fun k hk => Nat.lt_of_lt_of_le ((st.res hi).2.1 k hk) h3.size, Loc_MapK _ _⟩))

theorem e_rg (st : St w0 M hs w) (i : Nat) {T k e b : Nat} {x : Operand} {ks : List Wd} (hw : gd L kn g = some true) (hd : okDst n (some d) = true) (hx : evO kn x = some (.map (some b)))
    (hi : nth hs i = some (.tree [b] (fun w => MapK w b ks))) (ht : P.underlying T = some (.map k e))
    (next : ∀ r w', w0.heap.size ≤ r → b ≠ r → St w0 M (setNth hs i (.tree [b, r] (fun w => IterK w b r ks []))) w' → vN n N ((d, .pointer (some ⟨r, 0, none⟩)) :: kn) w') : vS P n L Q (⟨some d, .range T x, ty, pos, aft, g⟩) N kn w := by
  obtain ⟨w', h1, h2, h3, h4⟩ := run_rangeK (P := P) (st.res hi).1 ht
  have hbl := (st.res hi).2.1 b (by simp)
  exact e_run (v := .pointer (some ⟨w.heap.size, 0, none⟩)) (w' := w') hw hd (fun a ha => by simp only [execOp, ha.ev hx, Sem.run_bind, h1, Result.andThen_ok]; rfl)
    (next _ w' st.chg.size (by omega) (st.swap (C := []) hi h3 (by simp) (by simp) (by simp [Res.at?]) ⟨h2, by simp [h4]; omega, Loc_IterK _ _ _ _⟩))

theorem e_nx (st : St w0 M hs w) (i : Nat) {b r : Nat} {x : Operand} {ks dn : List Wd} (hw : gd L kn g = some true) (hd : okDst n (some d) = true) (hx : evO kn x = some (.pointer (some ⟨r, 0, none⟩)))
    (hi : nth hs i = some (.tree [b, r] (fun w => IterK w b r ks dn))) (hne : b ≠ r) (hm : r ∈ M ∨ w0.heap.size ≤ r)
    (next : ∀ t rest dn' w', (t = false → dn' = dn ∧ dn.Perm ks) → (t = true → ∃ s, dn' = dn ++ [s] ∧ dn.length < ks.length) → St w0 M (setNth hs i (.tree [b, r] (fun w => IterK w b r ks dn'))) w' →
      vN n N ((d, .tuple (Value.bool t :: rest).toArray) :: kn) w') : vS P n L Q (⟨some d, .next x false, ty, pos, aft, g⟩) N kn w := by
  obtain ⟨t, rest, dn', w', h1, h2, h3, h4, h5⟩ := run_nextK (P := P) (ty := ty) (st.res hi).1 hne
  exact e_run (v := .tuple (Value.bool t :: rest).toArray) (w' := w') hw hd (fun a ha => by simp only [execOp, ha.ev hx, Sem.run_bind, h1, Result.andThen_ok]; rfl)
    (next t rest dn' w' h4 h5 (st.swap (C := [r]) hi h3 (by simp [Res.at?]) (by simpa using hm) (fun k hk => .inl hk) ⟨h2, fun k hk => Nat.lt_of_lt_of_le ((st.res hi).2.1 k hk) h3.size, Loc_IterK _ _ _ _⟩))

theorem e_en (st : St w0 M hs w) (i : Nat) {b r : Nat} {x : Operand} {ks dn : List Wd} {s : Wd} (hw : gd L kn g = some true) (hd : okDst n (some d) = true) (hx : evO kn x = some (.pointer (some ⟨r, 0, none⟩)))
    (hi : nth hs i = some (.tree [b, r] (fun w => IterK w b r ks (dn ++ [s]))))
    (next : ∀ c, vN n N ((d, .tuple [str s, .int .i64 c].toArray) :: kn) w) : vS P n L Q (⟨some d, .entry x, ty, pos, aft, g⟩) N kn w := by
  obtain ⟨c, hc⟩ := run_entryK (P := P) (st.res hi).1
  exact e_run (v := .tuple [str s, .int .i64 c].toArray) (w' := w) hw hd (fun a ha => by simp only [execOp, ha.ev hx, Sem.run_bind, hc, Result.andThen_ok]; rfl) (next c)
end
end Sx


namespace Go.Proofs.YtnmhlpnapgojjaaGreatDoor.Pq
open Go.RowKit Sx LexS _root_.Go.Proofs.Tryz
def tnm (f t s : Wd) : Wd := if s ≠ [] ∧ s = f then t else s
def tat (b : Bool) (n : Int) : Int := if b then 0 else n
abbrev tvL (b : Bool) (f t : Wd) : List Value := [.bool b, str f, str t]
theorem trEs_len {g : Wd → Wd} {h : Int → Int} (l : List Ex) : (trEs g h l).length = l.length := by rw [trEs_map, List.length_map]
theorem trSs_len {g : Wd → Wd} {h : Int → Int} (l : List Sm) : (trSs g h l).length = l.length := by rw [trSs_map, List.length_map]
theorem trEs_at {g : Wd → Wd} {h : Int → Int} {l : List Ex} {j : Nat} {e : Ex} (he : l[j]? = some e) : (trEs g h l)[j]? = some (trE g h e) := by rw [trEs_map, List.getElem?_map, he]; rfl
theorem trSs_at {g : Wd → Wd} {h : Int → Int} {l : List Sm} {j : Nat} {e : Sm} (he : l[j]? = some e) : (trSs g h l)[j]? = some (trS g h e) := by rw [trSs_map, List.getElem?_map, he]; rfl
abbrev exT (g : Wd → Wd) (h : Int → Int) (e : Ex) (o : Option Addr) (c : Nat) : List Value := [.int .u8 e.k, .int .u8 e.op, .int .i64 e.wd, str (g e.nm), .slice o e.kids.length c, .int .i64 (h e.a)]
theorem exT_eq (g : Wd → Wd) (h : Int → Int) (e : Ex) (o : Option Addr) (c : Nat) : exT g h e o c = exL (trE g h e) o c := by
 cases e
 simp only [exT, exL, trE, Ex.kids, Ex.k, Ex.op, Ex.wd, Ex.nm, Ex.a, trEs_len]
section
variable {n0 : Nat} {S : Nat → Prop}

theorem tname_any (b : Bool) (f t s : Wd) (w : World) : Ret Tryz.prog 127 [.agg (tvL b f t).toArray, str s] w fun v w' => v = str (tnm f t s) ∧ Chg [] w w' := by
 refine ret_of [_, _] func127 rfl ntmps127 rfl ?_
 have st := St.init w []
 obtain ⟨w0, rfl⟩ : ∃ w0, w0 = w := ⟨_, rfl⟩
 refine vc_seq (vc_region ?_)
 refine vc_e (e_bx (l := [_, _, _]) st rfl rfl rfl rfl ?_)
 intro b2 w hb2 st
 refine ya ?_
 refine vc_end (vq_then (vk2 1 2 (vc_seq (vc_seq (vc_region ?_)))))
 refine ym ?_
 refine vy (y_nes rfl rfl) ?_
 refine vmb ?_ ?_
 ·intro hg7
  try simp only [dn] at hg7
  refine ym ?_
  refine yfz 1 underlying99 sizeOf9 ?_
  refine yl st 0 isAgg9 ?_
  refine vy (y_eqs rfl rfl) ?_
  refine ypt ?_
  refine vc_end (vq_then (vk3 1 2 12 ?_))
  refine vc_ifs rfl ?_ ?_
  ·intro hc12
   try simp only [dn] at hc12
   refine vc_seq (vc_region ?_)
   refine yfz 2 underlying99 sizeOf9 ?_
   refine yl st 0 isAgg9 ?_
   refine ya ?_
   refine vc_end (vq_then (vk1 4 (vc_ret (vq_then_ret ?_))))
   refine vq_ret1 st (.inl rfl) results127 (.tmp rfl) ?_
   refine ⟨_, rfl, ?_⟩
   refine ⟨?_, st.chg⟩
   unfold tnm
   split <;> first | rfl | (exfalso; simp_all)
  ·intro hc12
   try simp only [dn] at hc12
   refine vc_code_skip (vq_then (vk1 1 (vc_seq (vc_region ?_))))
   refine ym ?_
   refine ya ?_
   refine vc_end (vq_then (vk1 4 (vc_ret ?_)))
   refine vq_ret1 st (.inl rfl) results127 (.tmp rfl) ?_
   refine ⟨_, rfl, ?_⟩
   refine ⟨?_, st.chg⟩
   unfold tnm
   split <;> first | rfl | (exfalso; simp_all)
 ·intro hg7
  try simp only [dn] at hg7
  iterate 4 refine vsk ?_
  refine ypf ?_
  refine vc_end (vq_then (vk3 1 2 12 ?_))
  refine vc_iff rfl ?_
  refine vc_code_skip (vq_then (vk1 1 (vc_seq (vc_region ?_))))
  refine ym ?_
  refine ya ?_
  refine vc_end (vq_then (vk1 4 (vc_ret ?_)))
  refine vq_ret1 st (.inl rfl) results127 (.tmp rfl) ?_
  refine ⟨_, rfl, ?_⟩
  refine ⟨?_, st.chg⟩
  unfold tnm
  split <;> first | rfl | (exfalso; simp_all)

theorem tat_any (b : Bool) (f t : Wd) (n : Int) (w : World) : Ret Tryz.prog 129 [.agg (tvL b f t).toArray, .int .i64 n] w fun v w' => v = .int .i64 (tat b n) ∧ Chg [] w w' := by
 refine ret_of [_, _] func129 rfl ntmps129 rfl ?_
 have st := St.init w []
 obtain ⟨w0, rfl⟩ : ∃ w0, w0 = w := ⟨_, rfl⟩
 refine vc_seq (vc_region ?_)
 refine vc_e (e_bx (l := [_, _, _]) st rfl rfl rfl rfl ?_)
 intro b2 w hb2 st
 refine ya ?_
 refine vc_end (vq_then (vk2 1 2 (vc_seq (vc_seq (vc_region ?_)))))
 refine vy (y_fa0 rfl underlying99 rfl rfl sizeOf4 rfl) ?_
 refine yl st 0 isAgg4 ?_
 refine vc_end (vq_then (vk2 1 6 ?_))
 refine vc_ifs rfl ?_ ?_
 ·intro hc6
  try simp only [dn] at hc6
  refine vc_seq (vc_region ?_)
  refine ya ?_
  refine vc_end (vq_then (vk1 4 (vc_ret (vq_then_ret ?_))))
  refine vq_ret1 st (.inl rfl) results129 (.tmp rfl) ?_
  refine ⟨_, rfl, ?_⟩
  refine ⟨?_, st.chg⟩
  unfold tat
  split <;> rfl
 ·intro hc6
  try simp only [dn] at hc6
  refine vc_code_skip (vq_then (vk1 1 (vc_seq (vc_region ?_))))
  refine ym ?_
  refine ya ?_
  refine vc_end (vq_then (vk1 4 (vc_ret ?_)))
  refine vq_ret1 st (.inl rfl) results129 (.tmp rfl) ?_
  refine ⟨_, rfl, ?_⟩
  refine ⟨?_, st.chg⟩
  unfold tat
  split <;> first | rfl | (exfalso; simp_all)

set_option maxHeartbeats 1000000 in
theorem tdecls_any (b : Bool) (fr tn : Wd) (ds : List Dc) (hn : ds.length ≤ 1099511627776) (oa : Option Addr) (cap : Nat) (w : World) (hD : DcRow w S oa ds) :
    Ret Tryz.prog 126 [.agg (tvL b fr tn).toArray, .slice oa ds.length cap] w fun v w' => ∃ oq cq Sq, v = .slice oq ds.length cq ∧ DcRQ w' oq cq (ds.map (trD (tnm fr tn) (tat b))) Sq ∧ Nw w.heap.size Sq ∧ Chg [] w w' := by
 refine ret_of [_, _] func126 rfl ntmps126 rfl ?_
 have st := St.init w []
 obtain ⟨w0, rfl⟩ : ∃ w0, w0 = w := ⟨_, rfl⟩
 replace st := st.ownNil 63 3
 refine vc_seq (vc_region ?_)
 refine vc_e (e_bx (l := [_, _, _]) st rfl rfl rfl rfl ?_)
 intro b2 w hb2 st
 refine ya ?_
 refine vc_end (vq_then (vk2 1 2 (vc_seq (vc_region ?_))))
 refine ya ?_
 refine vc_end (vq_then (vk3 1 2 5 (vc_seq (vc_seq (vc_region ?_)))))
 refine ya ?_
 refine vc_end (vq_then (vk4 1 2 5 6 (vc_block ?_)))
 refine vc_loop (w0 := w0) (M := []) (fun (y : Nat × Option Addr × Nat) => [(1, .slice oa ds.length cap), (2, .pointer (some ⟨b2, 0, none⟩)), (5, .slice y.2.1 y.1 y.2.2), (6, .int .i64 (y.1 : Int))]) (fun y => [.blk b2 (.cells (tvL b fr tn).toArray 99 (0, 0)), .own (.slice y.2.1 y.1 y.2.2) 63 3 y.1 (((ds.map (trD (tnm fr tn) (tat b))).take y.1).flatMap dcL)]) (fun y _ => y.1 ≤ ds.length) (fun y => ds.length - y.1) (0, none, 0) ⟨rfl, rfl, rfl, rfl, trivial⟩ (by simpa using st) (by simp) ?_
 clear st
 rintro ⟨j, oj, cj⟩ w hj st
 dsimp only at *
 refine vc_seq (vc_seq (vc_region ?_))
 iterate 2 refine ym ?_
 refine vy (y_lensl rfl underlying23) ?_
 refine vy (y_lss rfl rfl) ?_
 refine vc_end (vq_then (vk5 1 2 5 6 10 ?_))
 refine vc_ifs rfl ?_ ?_
 ·intro hc10
  try simp only [dn] at hc10
  obtain ⟨x, hx⟩ : ∃ x, ds[j]? = some x := ⟨_, List.getElem?_eq_getElem (by omega)⟩
  obtain ⟨gb, go, rfl, hgS, hgl, hg⟩ := DcRow.at hD (by omega)
  have hc := hg j x hx
  refine vc_code_skip (vq_then (vk4 1 2 5 6 (vc_seq (vc_block ?_))))
  refine vc_draw Tryz.mixed [(0, true), (1, true), (2, true), (3, true), (4, true), (5, true), (6, true), (8, true), (9, true), (10, true), (11, true), (12, true), (13, true), (14, true), (15, true), (16, true), (17, true), (18, true), (7, false), (19, false), (20, true), (21, false), (22, false), (23, true)] (fun w => St _ _ [.blk b2 (.cells (tvL b fr tn).toArray 99 (0, 0))] w) st.dr (by kernel_rfl) (by repeat (first | exact okQ_noPan | exact okQ_body | exact okQ_bodyS | refine okQ_then ?_ | refine okQ_block ?_)) rfl (by kernel_rfl) ?_
  intro w cd; replace st := st.call0 cd; clear cd
  have hS : St _ _ [.blk b2 (.cells (tvL b fr tn).toArray 99 (0, 0))] w := st.dr
  refine pm hS ?_
  refine vp_take rfl rfl rfl hS (fun w st => y_lda (vs := [_, _, _]) st 0 rfl isAgg99 sizeOf99 rfl rfl) ?_
  iterate 2 refine pm hS ?_
  refine vp_take rfl rfl rfl hS (fun w st => y_ia (k := j) rfl rfl underlying23 sizeOf63 rfl (by omega)) ?_
  refine pf0 hS underlying63 sizeOf9 ?_
  refine vp_take rfl rfl rfl hS (fun w st => y_ldc rfl isAgg9 (st.chg.cell (hc 0 _ rfl) (by simp))) ?_
  iterate 2 refine pm hS ?_
  refine vp_take rfl rfl rfl hS (fun w st => y_ia (k := j) rfl rfl underlying23 sizeOf63 rfl (by omega)) ?_
  refine vp_take rfl rfl rfl hS (fun w st => y_fa (k := 1) rfl underlying63 rfl rfl sizeOf2 rfl) ?_
  refine vp_take rfl rfl rfl hS (fun w st => y_ldc rfl isAgg2 (st.chg.cell (hc 1 _ rfl) (by simp))) ?_
  refine vp_take rfl rfl rfl hS (fun w st => y_lda (vs := [_, _, _]) st 0 rfl isAgg99 sizeOf99 rfl rfl) ?_
  iterate 2 refine pm hS ?_
  refine vp_take rfl rfl rfl hS (fun w st => y_ia (k := j) rfl rfl underlying23 sizeOf63 rfl (by omega)) ?_
  refine vp_take rfl rfl rfl hS (fun w st => y_fa (k := 2) rfl underlying63 rfl rfl sizeOf3 rfl) ?_
  refine vp_take rfl rfl rfl hS (fun w st => y_ldc rfl isAgg3 (st.chg.cell (hc 2 _ rfl) (by simp))) ?_
  refine vp_do rfl (e_call [_, _] rfl rfl call127 rfl (tname_any b fr tn x.nm _) ?_)
  rintro _ w ⟨rfl, cw⟩
  replace st := st.call0 cw
  refine vp_next st.dr ?_; intro hS
  refine vp_do rfl (e_call [_, _] rfl rfl call129 rfl (tat_any b fr tn x.a _) ?_)
  rintro _ w ⟨rfl, cw⟩
  replace st := st.call0 cw
  refine vp_next st.dr ?_; intro hS
  refine vp_take rfl rfl rfl hS (fun w st => y_bld (.agg #[_, _, _]) [(0, _), (1, _), (2, _)] rfl (fun w => by simp [Instr.build, go_sem] <;> repeat' constructor)) ?_
  refine vp_do rfl (e_bs1 (l := [_, _, _]) st rfl rfl rfl rfl underlying23 sizeOf63 rfl rfl rfl zeroValue63 ?_)
  intro b34 w hb34 st
  refine vp_next st.dr ?_; intro hS
  refine vp_do rfl (e_app (bytes := 32) st 2 0 rfl rfl rfl rfl rfl rfl underlying23 Tryz.info63 rfl rfl rfl rfl rfl (by simp) rfl rfl (by unfold maxLen; omega) (by omega) ?_)
  intro oaQ capQ w st; dsimp only [setNth] at st
  refine vp_next st.dr ?_; intro hS
  refine vp_take rfl rfl rfl hS (fun w st => y_as rfl) ?_
  refine vp_end (vq_block (vq_then (vk4 1 2 5 6 (vc_region ?_))))
  refine ym ?_
  refine vy (y_add rfl rfl (by omega : _ = ((j + 1 : Nat) : Int)) (by omega) (by omega)) ?_
  refine ya ?_
  refine vc_end ?_
  refine vq_again (j + 1, oaQ, capQ)  ⟨rfl, rfl, rfl, rfl, trivial⟩ (by rw [take_snoc (by rw [List.getElem?_map, hx]; rfl : (ds.map (trD (tnm fr tn) (tat b)))[j]? = some (trD (tnm fr tn) (tat b) x)), List.flatMap_append]; exact st.pick [1, 2] rfl (by decide)) ?_ ?_
  ·dsimp only; omega
  ·dsimp only; omega
 ·intro hc10
  try simp only [dn] at hc10
  refine vc_exit (vq_then_exit (vq_then_exit (vq_block_exit (vq_then (vk1 5 (vc_seq (vc_region ?_)))))))
  refine ym ?_
  refine ya ?_
  refine vc_end (vq_then (vk1 4 (vc_ret ?_)))
  refine vq_ret1 st (.inl rfl) results126 (.tmp rfl) ?_
  refine ⟨_, rfl, ?_⟩
  obtain rfl : j = ds.length := by omega
  rw [List.take_of_length_le (by simp)] at st
  have hel : ds.length = (ds.map (trD (tnm fr tn) (tat b))).length := by simp
  rw [hel] at st
  refine ⟨oj, cj, _, by simp, ⟨(st.ownNw (i := 1) rfl).1, rfl⟩, (st.ownNw (i := 1) rfl).2, st.chg⟩

set_option maxHeartbeats 1000000 in
theorem texprs_any (b : Bool) (fr tn : Wd) : ∀ (n : Nat) (es : List Ex), szo es = n → OkEs es → ∀ (oa : Option Addr) (cap : Nat) (w : World), ExRow w (· < n0) oa es → n0 ≤ w.heap.size →
    Ret Tryz.prog 160 [.agg (tvL b fr tn).toArray, .slice oa es.length cap] w fun v w' => ∃ oq cq Sq, v = .slice oq es.length cq ∧ ExRQ w' oq cq (trEs (tnm fr tn) (tat b) es) Sq ∧ Nw w.heap.size Sq ∧ Chg [] w w' := by
 intro n
 refine Nat.strongRecOn n fun n ih => ?_
 intro es hn hok oa cap w hr hn0
 subst hn
 have hle := hok.1
 refine ret_of [_, _] func160 rfl ntmps160 rfl ?_
 have st := St.init w []
 obtain ⟨w0, rfl⟩ : ∃ w0, w0 = w := ⟨_, rfl⟩
 replace st := St.pushR (r := .tree [] (fun w => ExSs 42 w [] [] [])) st (Chg.refl _ _) (holds_of (by simp [ExSs]) (by simp) (fun a b h hk => h.kept hk)) (by simp [Res.at?])
 replace st := st.ownNil 42 6
 refine vc_seq (vc_region ?_)
 refine vc_e (e_bx (l := [_, _, _]) st rfl rfl rfl rfl ?_)
 intro b2 w hb2 st
 refine ya ?_
 refine vc_end (vq_then (vk2 1 2 (vc_seq (vc_region ?_))))
 refine ya ?_
 refine vc_end (vq_then (vk3 1 2 5 (vc_seq (vc_seq (vc_region ?_)))))
 refine ya ?_
 refine vc_end (vq_then (vk4 1 2 5 6 (vc_block ?_)))
 refine vc_loop (w0 := w0) (M := []) (fun (y : Nat × Option Addr × Nat × List Value × List Nat) => [(1, .slice oa es.length cap), (2, .pointer (some ⟨b2, 0, none⟩)), (5, .slice y.2.1 y.1 y.2.2.1), (6, .int .i64 (y.1 : Int))]) (fun y => [.blk b2 (.cells (tvL b fr tn).toArray 99 (0, 0)), .own (.slice y.2.1 y.1 y.2.2.1) 42 6 y.1 y.2.2.2.1, .tree y.2.2.2.2 (fun w => ExSs 42 w ((trEs (tnm fr tn) (tat b) es).take y.1) y.2.2.2.1 y.2.2.2.2)]) (fun y _ => y.1 ≤ es.length ∧ Nw w0.heap.size y.2.2.2.2) (fun y => es.length - y.1) (0, none, 0, [], []) ⟨rfl, rfl, rfl, rfl, trivial⟩ (by simpa using st) ⟨by simp, Nw.nil⟩ ?_
 clear st
 rintro ⟨j, oj, cj, xs, S⟩ w ⟨hj, hSS⟩ st
 dsimp only at *
 refine vc_seq (vc_seq (vc_region ?_))
 iterate 2 refine ym ?_
 refine vy (y_lensl rfl underlying40) ?_
 refine vy (y_lss rfl rfl) ?_
 refine vc_end (vq_then (vk5 1 2 5 6 11 ?_))
 refine vc_ifs rfl ?_ ?_
 ·intro hc11
  try simp only [dn] at hc11
  have stK := st
  obtain ⟨e, hej⟩ : ∃ e, es[j]? = some e := ⟨_, List.getElem?_eq_getElem (by omega)⟩
  obtain ⟨gb, go, rfl, hgS, hgl, hg⟩ := ExRow.at hr (by omega)
  obtain ⟨o0, c0, hV0, hr0, hc0⟩ := hg j e hej
  have hke := hok.2 j e hej
  have hz := mem_size hej
  have hz2 : szo e.kids < szo es := by have : szo e.kids < szo e := by cases e; exact ex_size
                                       omega
  have st := stK
  clear stK
  refine vc_code_skip (vq_then (vk4 1 2 5 6 (vc_seq (vc_block (vc_seq (vc_region ?_))))))
  iterate 2 refine ym ?_
  refine vy (y_ia (k := j) rfl rfl underlying40 sizeOf42 rfl (by omega)) ?_
  refine vy (y_ldca (exL e o0 c0) rfl isAgg42 sizeOf42 rfl (fun i v hi => st.chg.cell (hc0 i v hi) (by simp))) ?_
  refine vc_e (e_al (l := [_, _, _, _, _, _]) st rfl rfl zeroValue42 rfl ?_)
  intro b7 w hb7 st
  refine vc_e (e_sts (vs := [_, _, _, _, _, _]) st 0 rfl rfl rfl rfl rfl sizeOf42 rfl rfl (by (right; assumption)) ?_)
  intro w st; dsimp only [setNth, wr] at st
  refine vc_end (vq_then (vk5 1 2 5 6 7 (vc_seq (vc_region ?_))))
  refine yla st 1 [_, _, _] isAgg99 sizeOf99 ?_
  refine yfz 3 underlying42 sizeOf9 ?_
  refine yl st 0 isAgg9 ?_
  refine vc_e (e_call [_, _] rfl rfl call127 rfl (tname_any b fr tn e.nm _) ?_)
  rintro _ w ⟨rfl, cw⟩
  replace st := st.call0 cw
  refine yfz 3 underlying42 sizeOf9 ?_
  refine vc_e (e_st st 0 rfl rfl rfl rfl sizeOf9 rfl rfl (by (right; assumption)) ?_)
  intro w st; dsimp only [setNth, wr] at st
  refine vc_end (vq_then (vk5 1 2 5 6 7 (vc_seq (vc_region ?_))))
  refine yla st 1 [_, _, _] isAgg99 sizeOf99 ?_
  refine yfz 5 underlying42 sizeOf3 ?_
  refine yl st 0 isAgg3 ?_
  refine vc_e (e_call [_, _] rfl rfl call129 rfl (tat_any b fr tn e.a _) ?_)
  rintro _ w ⟨rfl, cw⟩
  replace st := st.call0 cw
  refine yfz 5 underlying42 sizeOf3 ?_
  refine vc_e (e_st st 0 rfl rfl rfl rfl sizeOf3 rfl rfl (by (right; assumption)) ?_)
  intro w st; dsimp only [setNth, wr] at st
  refine vc_end (vq_then (vk5 1 2 5 6 7 (vc_seq (vc_region ?_))))
  refine yla st 1 [_, _, _] isAgg99 sizeOf99 ?_
  refine yfz 4 underlying42 sizeOf40 ?_
  refine yl st 0 isAgg40 ?_
  refine vc_e (e_call [_, _] rfl rfl call160 rfl (ih _ hz2 e.kids rfl hke.kids _ _ _ (hr0.kept (Same.of_nil st.chg)) (Nat.le_trans hn0 st.chg.size)) ?_)
  rintro _ w ⟨oq, cq, Sq, rfl, hQ, hN, cw⟩
  have hN9 := hN.le st.chg.size
  replace st := St.pushR (r := .tree Sq (fun w => ExRQ w oq cq (trEs (tnm fr tn) (tat b) e.kids) Sq)) st cw (holds_of hQ hQ.lt (fun a b h hk => h.kept hk)) hN.2
  refine yfz 4 underlying42 sizeOf40 ?_
  refine vc_e (e_st st 1 rfl rfl rfl rfl sizeOf40 rfl rfl (by (right; assumption)) ?_)
  intro w st; dsimp only [setNth, wr] at st
  refine vc_end (vq_then (vk5 1 2 5 6 7 (vc_region ?_)))
  refine ym ?_
  refine yla st 1 [_, _, _, _, _, _] isAgg42 sizeOf42 ?_
  refine vc_e (e_bs1 (l := [_, _, _, _, _, _]) st rfl rfl rfl rfl underlying40 sizeOf42 rfl rfl rfl zeroValue42 ?_)
  intro b35 w hb35 st
  refine vc_e (e_app (bytes := 64) st 4 0 rfl rfl rfl rfl rfl rfl underlying40 Tryz.info42 rfl rfl rfl rfl rfl (by simp) rfl rfl (by unfold maxLen; omega) (by omega) ?_)
  intro oaQ capQ w st; dsimp only [setNth] at st
  refine ya ?_
  refine vc_end (vq_block (vq_then (vk4 1 2 5 6 (vc_region ?_))))
  have hne : ∀ b ∈ S, b ∉ Sq := fun b hb => st.ne (i := 5) (j := 1) (by decide) rfl rfl b hb
  have stN := st.pick [5, 1, 4, 3] rfl (by decide)
  have h1 := (stN.res (i := 0) rfl).1
  have h2 := (stN.res (i := 1) rfl).1
  have h3 : ExSs 42 w ((trEs (tnm fr tn) (tat b) es).take (j + 1)) (xs ++ exT (tnm fr tn) (tat b) e oq cq) (S ++ Sq) := by rw [take_snoc (trEs_at hej)]; exact ExSs.snoc h1 (ExS_iff.2 ⟨oq, cq, exT_eq _ _ _ _ _, by rw [show (trE (tnm fr tn) (tat b) e).kids = trEs (tnm fr tn) (tat b) e.kids from by cases e; rfl]; exact h2⟩)
  replace stN := (stN.join (q := .tree (S ++ Sq) fun w => ExSs 42 w ((trEs (tnm fr tn) (tat b) es).take (j + 1)) (xs ++ exT (tnm fr tn) (tat b) e oq cq) (S ++ Sq)) (fun k hk => List.mem_append.1 hk) (holds_of h3 h3.lt (fun a b h hk => h.kept hk))).pick [2, 1, 0] rfl (by decide)
  refine ym ?_
  refine vy (y_add rfl rfl (by omega : _ = ((j + 1 : Nat) : Int)) (by omega) (by omega)) ?_
  refine ya ?_
  refine vc_end ?_
  refine vq_again (j + 1, oaQ, capQ, xs ++ exT (tnm fr tn) (tat b) e oq cq, S ++ Sq)  ⟨rfl, rfl, rfl, rfl, trivial⟩ stN ?_ ?_
  ·exact ⟨by dsimp only; omega, hSS.app hN9 hne⟩
  ·dsimp only; omega
 ·intro hc11
  try simp only [dn] at hc11
  refine vc_exit (vq_then_exit (vq_then_exit (vq_block_exit (vq_then (vk1 5 (vc_seq (vc_region ?_)))))))
  refine ym ?_
  refine ya ?_
  refine vc_end (vq_then (vk1 4 (vc_ret ?_)))
  refine vq_ret1 st (.inl rfl) results160 (.tmp rfl) ?_
  refine ⟨_, rfl, ?_⟩
  obtain rfl : j = es.length := by omega
  rw [List.take_of_length_le (by rw [trEs_len]; omega)] at st
  rw [← trEs_len (g := tnm fr tn) (h := tat b) es] at st
  obtain ⟨h1, h2⟩ := st.ownNw (i := 1) rfl
  have h3 := (st.res (i := 2) rfl).1
  exact ⟨oj, cj, obk oj ++ S, rfl, ⟨xs, S, h1, rfl, h3⟩, h2.app hSS (fun b hb => st.ne (i := 1) (j := 2) (by decide) rfl rfl b (by simpa [Res.at?, obk_own] using hb)), st.chg⟩

end
end Go.Proofs.YtnmhlpnapgojjaaGreatDoor.Pq


namespace Go.Proofs.YtnmhlpnapgojjaaGreatDoor
open Go.RowKit Sx LexS _root_.Go.Proofs.Tryz
theorem wrap_i64 (n : Int) (h : -9223372036854775808 ≤ n ∧ n ≤ 9223372036854775807) : IntKind.i64.wrap n = n := by
 simp only [IntKind.wrap, IntKind.bits, IntKind.signed]
 simp
 omega
theorem all_take' {α : Type} {p : α → Bool} {l : List α} {j : Nat} {x : α} (h : (l.take j).all p = true) (hx : l[j]? = some x) (hp : p x = true) : (l.take (j + 1)).all p = true := by
 obtain ⟨hj, e⟩ := List.getElem?_eq_some_iff.1 hx
 rw [List.take_succ_eq_append_getElem hj, List.all_append, h, e]
 simpa using hp
theorem all_no' {α : Type} {p : α → Bool} {l : List α} {j : Nat} {x : α} (hx : l[j]? = some x) (hp : p x = false) : l.all p = false := by
 rw [List.all_eq_false]
 exact ⟨x, List.mem_of_getElem? hx, by rw [hp]; simp⟩
theorem all_end {α : Type} {p : α → Bool} {l : List α} {j : Nat} (h : (l.take j).all p = true) (hj : l.length ≤ j) : l.all p = true := by
 rwa [List.take_of_length_le hj] at h
theorem rightSs_eq : ∀ (l : List Sm) (d : Nat), rightSs l d = l.all (rightS · d)
 | [], d => rfl
 | s :: r, d => by simp only [rightSs, List.all_cons]; rw [rightSs_eq r d]
theorem rightS_iff {s : Sm} {d : Nat} : rightS s d = true ↔ (1 ≤ s.k ∧ s.k ≤ 7) ∧ nmOk (hasN s.k) s.nm = true ∧ nmOk (decide (s.k = 2)) s.other = true ∧ rightX (hasE s.k) s.e = true ∧ (hasB s.k = true ∨ s.body.length = 0) ∧ (s.k = 3 ∨ s.els.length = 0) ∧
    ((hasB s.k = false ∧ s.els.length = 0) ∨ d < 64) ∧ rightSs s.body (d + 1) = true ∧ rightSs s.els (d + 1) = true := by
 cases s with
 | mk k nm other e body els a =>
  simp only [rightS, Bool.and_eq_true, Bool.or_eq_true, decide_eq_true_eq, Bool.not_eq_true', Bool.or_eq_false_iff, decide_eq_false_iff_not, Sm.k, Sm.nm, Sm.other, Sm.e, Sm.body, Sm.els]
  have e : (¬ 0 < els.length) ↔ els.length = 0 := by omega
  rw [e]
  constructor
  ·rintro ⟨⟨⟨⟨⟨⟨⟨⟨h1, h2⟩, h3⟩, h4⟩, h5⟩, h6⟩, h7⟩, h8⟩, h9⟩
   exact ⟨h1, h2, h3, h4, h5, h6, h7, h8, h9⟩
  ·rintro ⟨h1, h2, h3, h4, h5, h6, h7, h8, h9⟩
   exact ⟨⟨⟨⟨⟨⟨⟨⟨h1, h2⟩, h3⟩, h4⟩, h5⟩, h6⟩, h7⟩, h8⟩, h9⟩
theorem rightX_t {e : List Ex} {x : Ex} (h : e.length = 1) (hx : e[0]? = some x) : rightX true e = rightE x 0 := by
 rw [one_form h hx]; rfl
theorem rightX_n {e : List Ex} (h : e.length ≠ 1) : rightX true e = false := by
 unfold rightX
 rcases e with _ | ⟨x, _ | ⟨y, r⟩⟩ <;> simp_all
theorem rightX_f {e : List Ex} : rightX false e = decide (e.length = 0) := rfl
theorem rightS_no {l : List Sm} {s : Sm} {d j : Nat} (hj : l[j]? = some s) (h : rightS s d = true → False) : Value.bool false = Value.bool (rightSs l d) := by
 rw [rightSs_no (s := s) (by cases hr : rightS s d; rfl; exact (h hr).elim) hj]
theorem sm_kids (s : Sm) : szo s.body < szo s ∧ szo s.els < szo s := by cases s; exact sm_size
/-- what a kind of statement has -/
abbrev shpL (k : Int) : List Value := [.bool (hasN k), .bool (decide (k = 2)), .bool (hasE k), .bool (hasB k), .bool (decide (k = 3))]
def tabL : List Value := [.bool false, .bool false, .bool false, .bool false, .bool false,
  .bool true, .bool false, .bool true, .bool false, .bool false, .bool true, .bool true, .bool true, .bool false, .bool false,
  .bool false, .bool false, .bool true, .bool true, .bool true, .bool false, .bool false, .bool true, .bool true, .bool false,
  .bool true, .bool false, .bool false, .bool true, .bool false, .bool false, .bool false, .bool true, .bool false, .bool false,
  .bool false, .bool false, .bool false, .bool false, .bool false]
theorem tab_at {w : World} {b E : Nat} (h : w.heap[b]? = some (.cells tabL.toArray E (0, 0))) {m : Nat} (hm : m < 8) : ∀ (i : Nat) v, (shpL m)[i]? = some v → w.cell? ⟨b, 0 + m * 5 + i, none⟩ = some v := by
 intro i v hi
 refine cell_nth h ?_
 rcases (show m = 0 ∨ m = 1 ∨ m = 2 ∨ m = 3 ∨ m = 4 ∨ m = 5 ∨ m = 6 ∨ m = 7 by omega) with rfl | rfl | rfl | rfl | rfl | rfl | rfl | rfl <;>
  (rcases i with _ | _ | _ | _ | _ | i <;> first | (simp at hi; done) | (simp at hi; subst hi; rfl))
end Go.Proofs.YtnmhlpnapgojjaaGreatDoor

