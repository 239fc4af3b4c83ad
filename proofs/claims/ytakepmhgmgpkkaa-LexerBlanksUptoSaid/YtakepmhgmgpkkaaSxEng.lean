/- The engine of these proofs, first part: what is known of a frame and of the memory, step by step. -/
import Derived.WalkKit
import Derived.WalkSpells
import Derived.WalkLawsBesides
import Derived.OrdersHeld
import Derived.Deep.LoopGhost
import Derived.Maps.AppendAt
import Derived.Lib.Strings
import Derived.Lib.SmallJoins
namespace Sx
open Go Go.RowKit
set_option linter.unusedVariables false
set_option linter.unusedSimpArgs false

/-! ## What is known of a frame -/
abbrev Kn := List (Nat × Value)

def find : Kn → Nat → Option Value
  | [], _ => none
  | p :: r, t => match Nat.beq p.1 t with | true => some p.2 | false => find r t

def evO (kn : Kn) : Operand → Option Value
  | .tmp t => find kn t
  | .const v => some v
  | .func f => some (.func (.func f) #[] #[])
  | .global g => some (.pointer (some ⟨g, 0, none⟩))

structure K (n : Nat) (kn : Kn) (a : Act) : Prop where
  defers : a.defers = []
  size : a.tmps.size = n
  get : ∀ t v, find kn t = some v → a.tmps[t]? = some v

theorem K.ev {n : Nat} {kn : Kn} {a : Act} (h : K n kn a) {x : Operand} {v : Value} (hx : evO kn x = some v) : a.eval x = v := by
  cases x with
  | tmp t => simp [Act.eval, h.get t v hx]
  | const c => simpa [evO, Act.eval] using hx
  | global g => simpa [evO, Act.eval] using hx
  | func f => simpa [evO, Act.eval] using hx

def put (d : Option Nat) (v : Value) (kn : Kn) : Kn := match d with | some d => (d, v) :: kn | none => kn
def okDst (n : Nat) : Option Nat → Bool | some d => Nat.blt d n | none => true

theorem K.put {n : Nat} {kn : Kn} {a : Act} (h : K n kn a) {d : Option Nat} (hd : okDst n d = true) (v : Value) : K n (Sx.put d v kn) (a.put d v) := by
  cases d with
  | none => exact h
  | some d =>
    have hlt : d < n := by simpa [okDst, Nat.blt_eq] using hd
    refine ⟨h.defers, by simp [Act.put, h.size], fun t u ht => ?_⟩
    simp only [Sx.put, find] at ht
    simp only [Act.put]
    split at ht
    · rename_i he
      obtain rfl : d = t := Nat.eq_of_beq_eq_true he
      rw [Array.getElem?_setIfInBounds_self_of_lt (by rw [h.size]; exact hlt)]
      exact ht
    · rename_i he
      have hne : d ≠ t := fun e => by subst e; simp at he
      rw [Array.getElem?_setIfInBounds_ne hne]
      exact h.get t u ht

def Sub : Kn → Kn → Prop
  | [], _ => True
  | p :: r, kn => find kn p.1 = some p.2 ∧ Sub r kn

theorem Sub.find {kn' kn : Kn} (h : Sub kn' kn) {t : Nat} {v : Value} (ht : Sx.find kn' t = some v) : Sx.find kn t = some v := by
  induction kn' with
  | nil => simp [Sx.find] at ht
  | cons p r ih =>
    simp only [Sx.find] at ht
    split at ht
    · rename_i he
      obtain rfl : p.1 = t := Nat.eq_of_beq_eq_true he
      rw [← ht]; exact h.1
    · exact ih h.2 ht

theorem K.sub {n : Nat} {kn kn' : Kn} {a : Act} (h : K n kn a) (hs : Sub kn' kn) : K n kn' a :=
  ⟨h.defers, h.size, fun t v ht => h.get t v (hs.find ht)⟩

def nth {α : Type} : List α → Nat → Option α
  | [], _ => none
  | x :: _, 0 => some x
  | _ :: r, i + 1 => nth r i

theorem nth_eq {α : Type} (l : List α) (i : Nat) : nth l i = l[i]? := by
  induction l generalizing i with
  | nil => simp [nth]
  | cons x r ih => cases i <;> simp [nth, ih]

def setNth {α : Type} : List α → Nat → α → List α
  | [], _, _ => []
  | _ :: r, 0, y => y :: r
  | x :: r, i + 1, y => x :: setNth r i y

theorem setNth_eq {α : Type} (l : List α) (i : Nat) (y : α) : setNth l i y = l.set i y := by
  induction l generalizing i with
  | nil => simp [setNth]
  | cons x r ih => cases i <;> simp [setNth, ih]

/-- is the operation wanted? 'L' is the region's list of operations -/
def gd (L : List Oper) (kn : Kn) : Option (Nat × Bool) → Option Bool
  | none => some true
  | some (j, b) => match ((nth L j).bind (·.dst)).bind (find kn) with
    | some (.bool c) => some (c == b)
    | some _ => some false
    | none => none

theorem K.gd {n : Nat} {kn : Kn} {a : Act} (h : K n kn a) {L : List Oper} {o : Oper} {r : Bool} (hg : gd L kn o.guard = some r) :
    Region.wanted o (yielded L.toArray a.tmps) = r := by
  unfold Sx.gd at hg
  unfold Region.wanted
  cases hgd : o.guard with
  | none => simp [hgd] at hg ⊢; exact hg
  | some p =>
    obtain ⟨j, b⟩ := p
    simp only [hgd] at hg ⊢
    rw [nth_eq] at hg
    cases hn : (L[j]?).bind (·.dst) with
    | none => simp [hn] at hg
    | some d =>
      simp only [hn, Option.bind_some] at hg
      have hy : yielded L.toArray a.tmps j = (match a.tmps[d]? with | some (.bool b) => some b | _ => none) := by
        simp only [yielded, List.getElem?_toArray, hn, Option.bind_some]
        rcases a.tmps[d]? with _ | v
        · rfl
        · cases v <;> rfl
      rw [hy]
      cases hf : find kn d with
      | none => simp [hf] at hg
      | some v =>
        rw [h.get d v hf]
        cases v
        case bool c =>
          simp [hf] at hg
          subst hg
          cases c <;> cases b <;> rfl
        all_goals
          simp [hf] at hg
          subst hg
          rfl

/-! ## The memory -/

structure Chg (M : List Nat) (w w' : World) : Prop where
  os : w'.os = w.os
  tape : w'.tape = w.tape
  output : w'.output = w.output
  size : w.heap.size ≤ w'.heap.size
  block : ∀ k, k < w.heap.size → k ∉ M → w'.heap[k]? = w.heap[k]?

theorem Chg.refl (M : List Nat) (w : World) : Chg M w w := ⟨rfl, rfl, rfl, Nat.le_refl _, fun _ _ _ => rfl⟩
theorem Chg.trans {M : List Nat} {a b c : World} (h : Chg M a b) (k : Chg M b c) : Chg M a c :=
  ⟨k.os.trans h.os, k.tape.trans h.tape, k.output.trans h.output, Nat.le_trans h.size k.size,
   fun i hi hm => (k.block i (Nat.lt_of_lt_of_le hi h.size) hm).trans (h.block i hi hm)⟩
/-- what is changed lies in 'M' or is new since 'a' -/
theorem Chg.trans' {M M' : List Nat} {a b c : World} (h : Chg M a b) (k : Chg M' b c) (hm : ∀ x ∈ M', x ∈ M ∨ a.heap.size ≤ x) : Chg M a c :=
  ⟨k.os.trans h.os, k.tape.trans h.tape, k.output.trans h.output, Nat.le_trans h.size k.size,
   fun i hi hn => (k.block i (Nat.lt_of_lt_of_le hi h.size) (fun hx => by rcases hm i hx with h1 | h1; exact hn h1; omega)).trans (h.block i hi hn)⟩
theorem Chg.mono {M M' : List Nat} {a b : World} (h : Chg M a b) (hm : ∀ x ∈ M, x ∈ M') : Chg M' a b :=
  ⟨h.os, h.tape, h.output, h.size, fun i hi hn => h.block i hi (fun hx => hn (hm i hx))⟩
theorem Chg.of_nil {M : List Nat} {a b : World} (h : Chg [] a b) : Chg M a b := h.mono (by simp)
theorem Chg.cell {M : List Nat} {w w' : World} (h : Chg M w w') {p : Addr} {v : Value} (hc : w.cell? p = some v) (hn : p.block ∉ M) : w'.cell? p = some v :=
  (World.cell?_of_block (h.block p.block (World.block_lt_of_cell? w p hc) hn)).trans hc
theorem Chg.heap {M : List Nat} {w w' : World} (h : Chg M w w') {b : Nat} {o : Obj} (hc : w.heap[b]? = some o) (hn : b ∉ M) : w'.heap[b]? = some o :=
  (h.block b (Array.getElem?_eq_some_iff.1 hc).1 hn).trans hc
theorem Chg.below {w w' : World} (h : Chg [] w w') : Below w.heap.size w w' :=
  ⟨h.os, h.tape, h.output, h.size, fun k hk => h.block k hk (by simp)⟩
theorem Chg.of_below {w w' : World} (h : Below w.heap.size w w') : Chg [] w w' :=
  ⟨h.os, h.tape, h.output, h.size, fun k hk _ => h.block k hk⟩
theorem Chg.drew (w : World) : Chg [] w w.drew := ⟨rfl, rfl, rfl, Nat.le_refl _, fun _ _ _ => rfl⟩
theorem Chg.alloc (w : World) (o : Obj) : Chg [] w (w.alloc o) := .of_below ((Below.refl _ w).alloc (Nat.le_refl _) o)

/-- what is held: a block that is known whole; a row that is owned -/
inductive Res where
  | blk (b : Nat) (o : Obj)
  | own (v : Value) (e size n : Nat) (xs : List Value)

def Res.at? : Res → Option Nat
  | .blk b _ => some b
  | .own v _ _ _ _ => v.ownBlock

def Res.holds (base : Nat) (w : World) : Res → Prop
  | .blk b o => w.heap[b]? = some o
  | .own v e size n xs => w.ownsRow base e size v n xs

structure St (w0 : World) (M : List Nat) (hs : List Res) (w : World) : Prop where
  chg : Chg M w0 w
  nodup : (hs.filterMap Res.at?).Nodup
  here : ∀ r ∈ hs, r.holds w0.heap.size w

theorem St.init (w : World) (M : List Nat) : St w M [] w := ⟨Chg.refl M w, by simp, by simp⟩

theorem mem_nth {α : Type} {l : List α} {i : Nat} {x : α} (h : nth l i = some x) : x ∈ l := by
  rw [nth_eq] at h; exact List.mem_of_getElem? h

section
variable {w0 w w' : World} {M : List Nat} {hs : List Res}

theorem St.res (st : St w0 M hs w) {i : Nat} {r : Res} (h : nth hs i = some r) : r.holds w0.heap.size w := st.here r (mem_nth h)

theorem St.lt (st : St w0 M hs w) {r : Res} (h : r ∈ hs) {k : Nat} (hk : r.at? = some k) : k < w.heap.size := by
  have hh := st.here r h
  cases r with
  | blk b o => simp [Res.at?] at hk; subst hk; exact (Array.getElem?_eq_some_iff.1 hh).1
  | own v e size n xs => exact (World.ownsRow.lt hh k hk).2

theorem St.fresh (st : St w0 M hs w) : w.heap.size ∉ hs.filterMap Res.at? := by
  intro h
  obtain ⟨r, hr, hk⟩ := List.mem_filterMap.1 h
  exact absurd (st.lt hr hk) (by omega)

theorem Res.holds_kept {base : Nat} {r : Res} {row : Option Nat} (h : r.holds base w) (hg : w.grownBy w' row) (hne : r.at? = none ∨ r.at? ≠ row) : r.holds base w' := by
  cases r with
  | blk b o =>
    have hne' : some b ≠ row := by simpa [Res.at?] using hne
    exact (hg.block b (Array.getElem?_eq_some_iff.1 h).1 hne').trans h
  | own v e size n xs => exact World.ownsRow.kept h hg hne

theorem Chg.grownBy (h : Chg [] w w') : w.grownBy w' none := ⟨h.os, h.tape, h.output, h.size, fun k hk _ => h.block k hk (by simp)⟩
theorem Chg.grownBy1 {b : Nat} (h : Chg [b] w w') : w.grownBy w' (some b) := ⟨h.os, h.tape, h.output, h.size, fun k hk hn => h.block k hk (by simpa using hn)⟩
theorem Chg.of_grownBy {b : Nat} (h : w.grownBy w' (some b)) : Chg [b] w w' := ⟨h.os, h.tape, h.output, h.size, fun k hk hn => h.block k hk (by simpa using hn)⟩
theorem Chg.of_grownBy_none (h : w.grownBy w' none) : Chg [] w w' := ⟨h.os, h.tape, h.output, h.size, fun k hk hn => h.block k hk (by simp)⟩

/-- a call that leaves all that was there -/
theorem St.call0 (st : St w0 M hs w) (c : Chg [] w w') : St w0 M hs w' :=
  ⟨st.chg.trans c.of_nil, st.nodup, fun r hr => Res.holds_kept (st.here r hr) c.grownBy (by cases h : r.at? <;> simp)⟩

theorem nodup_setNth {i : Nat} {r r' : Res} (hn : (hs.filterMap Res.at?).Nodup) (hi : nth hs i = some r) (he : r'.at? = r.at?) : ((setNth hs i r').filterMap Res.at?).Nodup := by
  have : (setNth hs i r').filterMap Res.at? = hs.filterMap Res.at? := by
    clear hn
    induction hs generalizing i with
    | nil => simp [setNth]
    | cons x xs ih =>
      cases i with
      | zero => simp [nth] at hi; subst hi; simp only [setNth, List.filterMap_cons, he]
      | succ i => simp [nth] at hi; simp only [setNth, List.filterMap_cons, ih hi]
  rw [this]; exact hn

theorem at_ne_of_nodup {i : Nat} {r : Res} {b : Nat} (hn : (hs.filterMap Res.at?).Nodup) (hi : nth hs i = some r) (hb : r.at? = some b) (r' : Res) :
    ∀ x, x ∈ setNth hs i r' → x = r' ∨ (x ∈ hs ∧ x.at? ≠ some b) := by
  induction hs generalizing i with
  | nil => intro x hx; simp [setNth] at hx
  | cons y ys ih =>
    intro x hx
    cases i with
    | zero =>
      simp [nth] at hi; subst hi
      simp only [setNth, List.mem_cons] at hx
      rcases hx with h | h
      · exact .inl h
      · refine .inr ⟨.tail _ h, fun hxb => ?_⟩
        simp only [List.filterMap_cons, hb, List.nodup_cons] at hn
        exact hn.1 (List.mem_filterMap.2 ⟨x, h, hxb⟩)
    | succ i =>
      simp [nth] at hi
      simp only [setNth, List.mem_cons] at hx
      have hn' : (ys.filterMap Res.at?).Nodup := by
        simp only [List.filterMap_cons] at hn
        split at hn
        · exact hn
        · exact (List.nodup_cons.1 hn).2
      rcases hx with h | h
      · subst h
        refine .inr ⟨.head _, fun hxb => ?_⟩
        simp only [List.filterMap_cons, hxb, List.nodup_cons] at hn
        exact hn.1 (List.mem_filterMap.2 ⟨r, mem_nth hi, hb⟩)
      · rcases ih hn' hi x h with h | ⟨h1, h2⟩
        · exact .inl h
        · exact .inr ⟨.tail _ h1, h2⟩

/-- one block that is held has turned -/
theorem St.turn (st : St w0 M hs w) {i b : Nat} {r r' : Res} (hi : nth hs i = some r) (hb : r.at? = some b) (hb' : r'.at? = some b) (c : Chg [b] w w')
    (hm : b ∈ M ∨ w0.heap.size ≤ b) (hr : r'.holds w0.heap.size w') : St w0 M (setNth hs i r') w' := by
  refine ⟨st.chg.trans' c (by simpa using hm), nodup_setNth st.nodup hi (by rw [hb, hb']), fun x hx => ?_⟩
  rcases at_ne_of_nodup st.nodup hi hb r' x hx with rfl | ⟨h1, h2⟩
  · exact hr
  · exact Res.holds_kept (st.here x h1) c.grownBy1 (.inr h2)

/-- a new resource at the world's end -/
theorem St.push (st : St w0 M hs w) (c : Chg [] w w') {r : Res} (hr : r.holds w0.heap.size w') (hat : r.at? = none ∨ r.at? = some w.heap.size) : St w0 M (r :: hs) w' := by
  have st' := st.call0 c
  refine ⟨st'.chg, ?_, fun x hx => ?_⟩
  · simp only [List.filterMap_cons]
    rcases hat with h | h <;> simp only [h]
    · exact st'.nodup
    · exact List.nodup_cons.2 ⟨st.fresh, st.nodup⟩
  · rcases List.mem_cons.1 hx with rfl | h
    · exact hr
    · exact st'.here x h

theorem St.of1 {b : Nat} {o : Obj} (M : List Nat) (h : w.heap[b]? = some o) : St w M [.blk b o] w :=
  ⟨Chg.refl M w, by simp [Res.at?], by simpa [Res.holds] using h⟩

theorem St.of2 {b c : Nat} {o p : Obj} (M : List Nat) (h : w.heap[b]? = some o) (h' : w.heap[c]? = some p) (hne : b ≠ c) : St w M [.blk b o, .blk c p] w :=
  ⟨Chg.refl M w, by simp [Res.at?, hne], by simp [Res.holds, h, h']⟩

def SubR : List Nat → List Res → List Res → Prop
  | [], hs', _ => hs' = []
  | i :: is, hs', hs => ∃ r rest, hs' = r :: rest ∧ nth hs i = some r ∧ SubR is rest hs

theorem St.drop (st : St w0 M hs w) {hs' : List Res} (h : hs'.Sublist hs) : St w0 M hs' w :=
  ⟨st.chg, st.nodup.sublist (h.filterMap _), fun r hr => st.here r (h.subset hr)⟩

theorem St.perm (st : St w0 M hs w) {hs' : List Res} (h : hs.Perm hs') : St w0 M hs' w :=
  ⟨st.chg, (h.filterMap _).nodup_iff.1 st.nodup, fun r hr => st.here r (h.mem_iff.2 hr)⟩
end
end Sx
