/- A part of the proof: contracts of functions and plain laws; each theorem says its own conditions. -/
import Derived.WalkKit
import Derived.WalkSpells
import Derived.WalkLawsBesides
import Derived.OrdersHeld
import Derived.Deep.LoopGhost
import Derived.Maps.AppendAt
import Derived.Lib.Strings
import Derived.Lib.SmallJoins
set_option linter.unusedVariables false
set_option linter.unusedSimpArgs false
/- The engine of these proofs, first part: what is known of a frame and of the memory, step by step. -/
namespace Sx
open Go Go.RowKit

/-! ## What is known of a frame -/
abbrev Kn := List (Nat × Value)

def find : Kn → Nat → Option Value
  | [], _ => none
  | p :: r, t => match Nat.beq p.1 t with | true => some p.2 | false => find r t

def evO (kn : Kn) : Operand → Option Value
  | .tmp t => find kn t
  | .const v => some v
  | .func f => some (.func (.func f) #[] #[])
  | .global g => some (.pointer (some ⟨g, 0, none⟩))

/-- how many temporaries; the calls that are deferred -/
abbrev Fr := Nat × List Deferred

structure K (n : Fr) (kn : Kn) (a : Act) : Prop where
  defers : a.defers = n.2
  size : a.tmps.size = n.1
  get : ∀ t v, find kn t = some v → a.tmps[t]? = some v

theorem K.ev {n : Fr} {kn : Kn} {a : Act} (h : K n kn a) {x : Operand} {v : Value} (hx : evO kn x = some v) : a.eval x = v := by
  cases x with
  | tmp t => simp [Act.eval, h.get t v hx]
  | const c => simpa [evO, Act.eval] using hx
  | global g => simpa [evO, Act.eval] using hx
  | func f => simpa [evO, Act.eval] using hx

def put (d : Option Nat) (v : Value) (kn : Kn) : Kn := match d with | some d => (d, v) :: kn | none => kn
def okDst (n : Fr) : Option Nat → Bool | some d => Nat.blt d n.1 | none => true

theorem K.put {n : Fr} {kn : Kn} {a : Act} (h : K n kn a) {d : Option Nat} (hd : okDst n d = true) (v : Value) : K n (Sx.put d v kn) (a.put d v) := by
  cases d with
  | none => exact h
  | some d =>
    have hlt : d < n.1 := by simpa [okDst, Nat.blt_eq] using hd
    refine ⟨h.defers, by simp [Act.put, h.size], fun t u ht => ?_⟩
    simp only [Sx.put, find] at ht
    simp only [Act.put]
    split at ht
    · rename_i he
      obtain rfl : d = t := Nat.eq_of_beq_eq_true he
      rw [Array.getElem?_setIfInBounds_self_of_lt (by rw [h.size]; exact hlt)]
      exact ht
    · rename_i he
      have hne : d ≠ t := fun e => by subst e; simp at he
      rw [Array.getElem?_setIfInBounds_ne hne]
      exact h.get t u ht

def Sub : Kn → Kn → Prop
  | [], _ => True
  | p :: r, kn => find kn p.1 = some p.2 ∧ Sub r kn

theorem Sub.find {kn' kn : Kn} (h : Sub kn' kn) {t : Nat} {v : Value} (ht : Sx.find kn' t = some v) : Sx.find kn t = some v := by
  induction kn' with
  | nil => simp [Sx.find] at ht
  | cons p r ih =>
    simp only [Sx.find] at ht
    split at ht
    · rename_i he
      obtain rfl : p.1 = t := Nat.eq_of_beq_eq_true he
      rw [← ht]; exact h.1
    · exact ih h.2 ht

theorem K.sub {n : Fr} {kn kn' : Kn} {a : Act} (h : K n kn a) (hs : Sub kn' kn) : K n kn' a :=
  ⟨h.defers, h.size, fun t v ht => h.get t v (hs.find ht)⟩

def nth {α : Type} : List α → Nat → Option α
  | [], _ => none
  | x :: _, 0 => some x
  | _ :: r, i + 1 => nth r i

theorem nth_eq {α : Type} (l : List α) (i : Nat) : nth l i = l[i]? := by
  induction l generalizing i with
  | nil => simp [nth]
  | cons x r ih => cases i <;> simp [nth, ih]

def setNth {α : Type} : List α → Nat → α → List α
  | [], _, _ => []
  | _ :: r, 0, y => y :: r
  | x :: r, i + 1, y => x :: setNth r i y

theorem setNth_eq {α : Type} (l : List α) (i : Nat) (y : α) : setNth l i y = l.set i y := by
  induction l generalizing i with
  | nil => simp [setNth]
  | cons x r ih => cases i <;> simp [setNth, ih]

/-- is the operation wanted? 'L' is the region's list of operations -/
def gd (L : List Oper) (kn : Kn) : Option (Nat × Bool) → Option Bool
  | none => some true
  | some (j, b) => match ((nth L j).bind (·.dst)).bind (find kn) with
    | some (.bool c) => some (c == b)
    | some _ => some false
    | none => none

theorem K.gd {n : Fr} {kn : Kn} {a : Act} (h : K n kn a) {L : List Oper} {o : Oper} {r : Bool} (hg : gd L kn o.guard = some r) :
    Region.wanted o (yielded L.toArray a.tmps) = r := by
  unfold Sx.gd at hg
  unfold Region.wanted
  cases hgd : o.guard with
  | none => simp [hgd] at hg ⊢; exact hg
  | some p =>
    obtain ⟨j, b⟩ := p
    simp only [hgd] at hg ⊢
    rw [nth_eq] at hg
    cases hn : (L[j]?).bind (·.dst) with
    | none => simp [hn] at hg
    | some d =>
      simp only [hn, Option.bind_some] at hg
      have hy : yielded L.toArray a.tmps j = (match a.tmps[d]? with | some (.bool b) => some b | _ => none) := by
        simp only [yielded, List.getElem?_toArray, hn, Option.bind_some]
        rcases a.tmps[d]? with _ | v
        · rfl
        · cases v <;> rfl
      rw [hy]
      cases hf : find kn d with
      | none => simp [hf] at hg
      | some v =>
        rw [h.get d v hf]
        cases v
        case bool c =>
          simp [hf] at hg
          subst hg
          cases c <;> cases b <;> rfl
        all_goals
          simp [hf] at hg
          subst hg
          rfl

/-! ## The memory -/

structure Chg (M : List Nat) (w w' : World) : Prop where
  os : w'.os = w.os
  tape : w'.tape = w.tape
  output : w'.output = w.output
  size : w.heap.size ≤ w'.heap.size
  block : ∀ k, k < w.heap.size → k ∉ M → w'.heap[k]? = w.heap[k]?

theorem Chg.refl (M : List Nat) (w : World) : Chg M w w := ⟨rfl, rfl, rfl, Nat.le_refl _, fun _ _ _ => rfl⟩
theorem Chg.trans {M : List Nat} {a b c : World} (h : Chg M a b) (k : Chg M b c) : Chg M a c :=
  ⟨k.os.trans h.os, k.tape.trans h.tape, k.output.trans h.output, Nat.le_trans h.size k.size,
   fun i hi hm => (k.block i (Nat.lt_of_lt_of_le hi h.size) hm).trans (h.block i hi hm)⟩
/-- what is changed lies in 'M' or is new since 'a' -/
theorem Chg.trans' {M M' : List Nat} {a b c : World} (h : Chg M a b) (k : Chg M' b c) (hm : ∀ x ∈ M', x ∈ M ∨ a.heap.size ≤ x) : Chg M a c :=
  ⟨k.os.trans h.os, k.tape.trans h.tape, k.output.trans h.output, Nat.le_trans h.size k.size,
   fun i hi hn => (k.block i (Nat.lt_of_lt_of_le hi h.size) (fun hx => by rcases hm i hx with h1 | h1; exact hn h1; omega)).trans (h.block i hi hn)⟩
theorem Chg.mono {M M' : List Nat} {a b : World} (h : Chg M a b) (hm : ∀ x ∈ M, x ∈ M') : Chg M' a b :=
  ⟨h.os, h.tape, h.output, h.size, fun i hi hn => h.block i hi (fun hx => hn (hm i hx))⟩
theorem Chg.of_nil {M : List Nat} {a b : World} (h : Chg [] a b) : Chg M a b := h.mono (by simp)
theorem Chg.cell {M : List Nat} {w w' : World} (h : Chg M w w') {p : Addr} {v : Value} (hc : w.cell? p = some v) (hn : p.block ∉ M) : w'.cell? p = some v :=
  (World.cell?_of_block (h.block p.block (World.block_lt_of_cell? w p hc) hn)).trans hc
theorem Chg.below {w w' : World} (h : Chg [] w w') : Below w.heap.size w w' :=
  ⟨h.os, h.tape, h.output, h.size, fun k hk => h.block k hk (by simp)⟩
theorem Chg.of_below {w w' : World} (h : Below w.heap.size w w') : Chg [] w w' :=
  ⟨h.os, h.tape, h.output, h.size, fun k hk _ => h.block k hk⟩
theorem Chg.drew (w : World) : Chg [] w w.drew := ⟨rfl, rfl, rfl, Nat.le_refl _, fun _ _ _ => rfl⟩
theorem Chg.alloc (w : World) (o : Obj) : Chg [] w (w.alloc o) := .of_below ((Below.refl _ w).alloc (Nat.le_refl _) o)

/-- what stays as long as the blocks of 'S' stay -/
def Loc (S : List Nat) (φ : World → Prop) : Prop := ∀ w w' : World, w.heap.size ≤ w'.heap.size → (∀ k ∈ S, w'.heap[k]? = w.heap[k]?) → φ w → φ w'

/-- what is held: a block that is known whole; a row that is owned; what hangs on blocks that stay -/
inductive Res where
  | blk (b : Nat) (o : Obj)
  | own (v : Value) (e size n : Nat) (xs : List Value)
  | tree (S : List Nat) (φ : World → Prop)

def Res.at? : Res → List Nat
  | .blk b _ => [b]
  | .own v _ _ _ _ => v.ownBlock.toList
  | .tree S _ => S

def Res.holds (base : Nat) (w : World) : Res → Prop
  | .blk b o => w.heap[b]? = some o
  | .own v e size n xs => w.ownsRow base e size v n xs
  | .tree S φ => φ w ∧ (∀ k ∈ S, k < w.heap.size) ∧ Loc S φ

def Apart (hs : List Res) : Prop := hs.Pairwise fun r s => ∀ k ∈ r.at?, k ∉ s.at?

structure St (w0 : World) (M : List Nat) (hs : List Res) (w : World) : Prop where
  chg : Chg M w0 w
  nodup : Apart hs
  here : ∀ r ∈ hs, r.holds w0.heap.size w

theorem St.init (w : World) (M : List Nat) : St w M [] w := ⟨Chg.refl M w, List.Pairwise.nil, by simp⟩

theorem mem_nth {α : Type} {l : List α} {i : Nat} {x : α} (h : nth l i = some x) : x ∈ l := by
  rw [nth_eq] at h; exact List.mem_of_getElem? h

theorem nth_split {α : Type} {l : List α} {i : Nat} {x y : α} (hi : nth l i = some x) : ∃ a b, l = a ++ x :: b ∧ setNth l i y = a ++ y :: b := by
  induction l generalizing i with
  | nil => simp [nth] at hi
  | cons z zs ih =>
    cases i with
    | zero => simp [nth] at hi; subst hi; exact ⟨[], zs, rfl, rfl⟩
    | succ i =>
      simp [nth] at hi
      obtain ⟨a, b, h1, h2⟩ := ih hi
      exact ⟨z :: a, b, by simp [h1], by simp [setNth, h2]⟩

section
variable {w0 w w' : World} {M : List Nat} {hs : List Res}

theorem St.res (st : St w0 M hs w) {i : Nat} {r : Res} (h : nth hs i = some r) : r.holds w0.heap.size w := st.here r (mem_nth h)

theorem St.lt (st : St w0 M hs w) {r : Res} (h : r ∈ hs) {k : Nat} (hk : k ∈ r.at?) : k < w.heap.size := by
  have hh := st.here r h
  cases r with
  | blk b o => simp [Res.at?] at hk; subst hk; exact (Array.getElem?_eq_some_iff.1 hh).1
  | own v e size n xs =>
    simp only [Res.at?, Option.mem_toList] at hk
    exact (World.ownsRow.lt hh k hk).2
  | tree S φ => exact hh.2.1 k hk

theorem Chg.of_grownBy_none (h : w.grownBy w' none) : Chg [] w w' := ⟨h.os, h.tape, h.output, h.size, fun k hk hn => h.block k hk (by simp)⟩
theorem Chg.of_grownByO {o : Option Nat} (h : w.grownBy w' o) : Chg o.toList w w' := ⟨h.os, h.tape, h.output, h.size, fun k hk hn => h.block k hk (fun e => hn (by simp [← e]))⟩

/-- what is held stays held, where its blocks are not among those that change -/
theorem Res.holds_chg {base : Nat} {r : Res} {C : List Nat} (h : r.holds base w) (hlt : ∀ k ∈ r.at?, k < w.heap.size) (c : Chg C w w') (hne : ∀ k ∈ r.at?, k ∉ C) : r.holds base w' := by
  cases r with
  | blk b o => exact (c.block b (Array.getElem?_eq_some_iff.1 h).1 (hne b (by simp [Res.at?]))).trans h
  | own v e size n xs =>
    have hg : w.grownBy w' none ∨ True := .inr trivial
    cases hv : v.ownBlock with
    | none =>
      rcases h.2 with ⟨rfl, h0⟩ | ⟨g, cap, cur, rfl, _⟩
      · exact ⟨h.1, .inl ⟨rfl, h0⟩⟩
      · simp [Value.ownBlock] at hv
    | some b =>
      have hb : w'.heap[b]? = w.heap[b]? := c.block b (hlt b (by simp [Res.at?, hv])) (hne b (by simp [Res.at?, hv]))
      refine ⟨h.1, h.2.imp id fun ⟨g, cap, cur, h1, h2, h3⟩ => ⟨g, cap, cur, h1, h2, ?_⟩⟩
      have hgb : g = b := by rw [h1] at hv; simpa [Value.ownBlock] using hv
      subst hgb
      rw [hb]; exact h3
  | tree S φ =>
    obtain ⟨h1, h2, h3⟩ := h
    exact ⟨h3 w w' c.size (fun k hk => c.block k (h2 k hk) (hne k hk)) h1, fun k hk => Nat.lt_of_lt_of_le (h2 k hk) c.size, h3⟩

/-- a call that leaves all that was there -/
theorem St.call0 (st : St w0 M hs w) (c : Chg [] w w') : St w0 M hs w' :=
  ⟨st.chg.trans c.of_nil, st.nodup, fun r hr => Res.holds_chg (st.here r hr) (fun k hk => st.lt hr hk) c (by simp)⟩

/-- THE STEP: the blocks of the resource at 'i' may change, the resource turns; what it newly lies at is new -/
theorem St.swap (st : St w0 M hs w) {i : Nat} {r r' : Res} {C : List Nat} (hi : nth hs i = some r) (c : Chg C w w') (hC : ∀ k ∈ C, k ∈ r.at?) (hm : ∀ k ∈ C, k ∈ M ∨ w0.heap.size ≤ k)
    (hat : ∀ k ∈ r'.at?, k ∈ r.at? ∨ w.heap.size ≤ k) (hr : r'.holds w0.heap.size w') : St w0 M (setNth hs i r') w' := by
  obtain ⟨a, b, h1, h2⟩ := nth_split (y := r') hi
  have hnd := st.nodup
  rw [h1] at hnd
  unfold Apart at hnd
  rw [List.pairwise_append, List.pairwise_cons] at hnd
  obtain ⟨n1, ⟨n2, n3⟩, n4⟩ := hnd
  have mem : ∀ x, x ∈ a ∨ x ∈ b → x ∈ hs ∧ ∀ k ∈ x.at?, k ∉ r.at? := by
    intro x hx
    rcases hx with hx | hx
    · exact ⟨by rw [h1]; simp [hx], fun k hk hk' => n4 x hx r (.head _) k hk hk'⟩
    · exact ⟨by rw [h1]; simp [hx], fun k hk hk' => n2 x hx k hk' hk⟩
  have new : ∀ x, x ∈ a ∨ x ∈ b → ∀ k ∈ r'.at?, k ∉ x.at? := by
    intro x hx k hk hk'
    obtain ⟨m1, m2⟩ := mem x hx
    rcases hat k hk with h | h
    · exact m2 k hk' h
    · exact absurd (st.lt m1 hk') (by omega)
  refine ⟨st.chg.trans' c hm, ?_, ?_⟩
  · rw [h2]
    unfold Apart
    rw [List.pairwise_append, List.pairwise_cons]
    refine ⟨n1, ⟨fun x hx k hk => new x (.inr hx) k hk, n3⟩, fun x hx y hy k hk hk' => ?_⟩
    rcases List.mem_cons.1 hy with rfl | hy
    · exact new x (.inl hx) k hk' hk
    · exact n4 x hx y (.tail _ hy) k hk hk'
  · rw [h2]
    intro x hx
    have key : ∀ x, x ∈ a ∨ x ∈ b → x.holds w0.heap.size w' := fun x hx => by
      obtain ⟨m1, m2⟩ := mem x hx
      exact Res.holds_chg (st.here x m1) (fun k hk => st.lt m1 hk) c (fun k hk hk' => m2 k hk (hC k hk'))
    rcases List.mem_append.1 hx with h | h
    · exact key x (.inl h)
    · rcases List.mem_cons.1 h with rfl | h
      · exact hr
      · exact key x (.inr h)

/-- one block that is held has turned -/
theorem St.turn (st : St w0 M hs w) {i b : Nat} {r r' : Res} (hi : nth hs i = some r) (hb : r.at? = [b]) (hb' : r'.at? = [b]) (c : Chg [b] w w')
    (hm : b ∈ M ∨ w0.heap.size ≤ b) (hr : r'.holds w0.heap.size w') : St w0 M (setNth hs i r') w' :=
  st.swap hi c (by simp [hb]) (by simpa using hm) (by simp [hb, hb']) hr

/-- new resources -/
theorem St.pushR (st : St w0 M hs w) (c : Chg [] w w') {r : Res} (hr : r.holds w0.heap.size w') (hat : ∀ k ∈ r.at?, w.heap.size ≤ k) : St w0 M (r :: hs) w' := by
  have st' := st.call0 c
  refine ⟨st'.chg, List.pairwise_cons.2 ⟨fun x hx k hk hk' => absurd (st.lt hx hk') (by have := hat k hk; omega), st'.nodup⟩, fun x hx => ?_⟩
  rcases List.mem_cons.1 hx with rfl | h
  · exact hr
  · exact st'.here x h
/-- a new resource at the world's end -/
theorem St.push (st : St w0 M hs w) (c : Chg [] w w') {r : Res} (hr : r.holds w0.heap.size w') (hat : r.at? = [w.heap.size]) : St w0 M (r :: hs) w' :=
  st.pushR c hr (by simp [hat])
/-- a resource turns, a new one comes to be -/
theorem St.swapPush (st : St w0 M hs w) {i : Nat} {r r' q : Res} {C : List Nat} (hi : nth hs i = some r) (c : Chg C w w') (hC : ∀ k ∈ C, k ∈ r.at?) (hm : ∀ k ∈ C, k ∈ M ∨ w0.heap.size ≤ k)
    (hat : ∀ k ∈ r'.at?, k ∈ r.at?) (hr : r'.holds w0.heap.size w') (hq : q.holds w0.heap.size w') (hqa : ∀ k ∈ q.at?, w.heap.size ≤ k) : St w0 M (q :: setNth hs i r') w' := by
  have st' := st.swap hi c hC hm (fun k hk => .inl (hat k hk)) hr
  obtain ⟨a, b, h1, h2⟩ := nth_split (y := r') hi
  refine ⟨st'.chg, List.pairwise_cons.2 ⟨fun x hx k hk hk' => ?_, st'.nodup⟩, fun x hx => ?_⟩
  · have : ∃ y ∈ hs, k ∈ y.at? := by
      rw [h2] at hx
      rcases List.mem_append.1 hx with h | h
      · exact ⟨x, by rw [h1]; simp [h], hk'⟩
      · rcases List.mem_cons.1 h with rfl | h
        · exact ⟨r, mem_nth hi, hat k hk'⟩
        · exact ⟨x, by rw [h1]; simp [h], hk'⟩
    obtain ⟨y, hy, hky⟩ := this
    exact absurd (st.lt hy hky) (by have := hqa k hk; omega)
  · rcases List.mem_cons.1 hx with rfl | h
    · exact hq
    · exact st'.here x h

theorem St.of1 {b : Nat} {o : Obj} (M : List Nat) (h : w.heap[b]? = some o) : St w M [.blk b o] w :=
  ⟨Chg.refl M w, List.pairwise_singleton _ _, by simpa [Res.holds] using h⟩

theorem St.of2 {b c : Nat} {o p : Obj} (M : List Nat) (h : w.heap[b]? = some o) (h' : w.heap[c]? = some p) (hne : b ≠ c) : St w M [.blk b o, .blk c p] w :=
  ⟨Chg.refl M w, List.pairwise_cons.2 ⟨by simp [Res.at?, hne], List.pairwise_singleton _ _⟩, by simp [Res.holds, h, h']⟩

theorem St.drop (st : St w0 M hs w) {hs' : List Res} (h : hs'.Sublist hs) : St w0 M hs' w :=
  ⟨st.chg, List.Pairwise.sublist h st.nodup, fun r hr => st.here r (h.subset hr)⟩

theorem St.perm (st : St w0 M hs w) {hs' : List Res} (h : hs.Perm hs') : St w0 M hs' w :=
  ⟨st.chg, (h.pairwise_iff (fun {x y} hxy k hk hk' => hxy k hk' hk)).1 st.nodup, fun r hr => st.here r (h.mem_iff.2 hr)⟩
/-- the first two become one -/
theorem St.join {r s : Res} (st : St w0 M (r :: s :: hs) w) {q : Res} (hat : ∀ k ∈ q.at?, k ∈ r.at? ∨ k ∈ s.at?) (hq : q.holds w0.heap.size w) : St w0 M (q :: hs) w := by
  have hnd := st.nodup
  unfold Apart at hnd
  rw [List.pairwise_cons, List.pairwise_cons] at hnd
  obtain ⟨h1, h2, h3⟩ := hnd
  refine ⟨st.chg, List.pairwise_cons.2 ⟨fun x hx k hk hk' => ?_, h3⟩, fun x hx => ?_⟩
  · rcases hat k hk with h | h
    · exact h1 x (.tail _ hx) k h hk'
    · exact h2 x hx k h hk'
  · rcases List.mem_cons.1 hx with rfl | h
    · exact hq
    · exact st.here x (.tail _ (.tail _ h))
/-- the first becomes another -/
theorem St.turn0 {r : Res} (st : St w0 M (r :: hs) w) {q : Res} (hat : ∀ k ∈ q.at?, k ∈ r.at?) (hq : q.holds w0.heap.size w) : St w0 M (q :: hs) w := by
  have hnd := st.nodup
  unfold Apart at hnd
  rw [List.pairwise_cons] at hnd
  refine ⟨st.chg, List.pairwise_cons.2 ⟨fun x hx k hk hk' => hnd.1 x hx k (hat k hk) hk', hnd.2⟩, fun x hx => ?_⟩
  rcases List.mem_cons.1 hx with rfl | h
  · exact hq
  · exact st.here x (.tail _ h)
end
end Sx
/-- what a comparison's answer says, as simp's set: one name for all -/
theorem Sx.dn : (∀ (p : Prop) [Decidable p], (decide p = true) = p) ∧ (∀ (p : Prop) [Decidable p], (decide p = false) = ¬p) ∧ (∀ b : Bool, ((!b) = true) = (b = false)) ∧ (∀ b : Bool, ((!b) = false) = (b = true)) ∧
    (∀ b : Bool, (¬b = true) = (b = false)) ∧ (∀ b : Bool, (¬b = false) = (b = true)) ∧ (∀ a b : Int, (¬a < b) = (b ≤ a)) ∧ (∀ a b : Int, (¬a ≤ b) = (b < a)) ∧ (∀ a b : Nat, (¬a < b) = (b ≤ a)) ∧ (∀ a b : Nat, (¬a ≤ b) = (b < a)) ∧
    ((!true) = false) ∧ ((!false) = true) ∧ ((true = false) = False) ∧ ((false = true) = False) := by
  refine ⟨fun p _ => by simp, fun p _ => by simp, fun b => by simp, fun b => by simp, fun b => by simp, fun b => by simp, fun a b => propext Int.not_lt, fun a b => propext Int.not_le, fun a b => propext Nat.not_lt, fun a b => propext Nat.not_le, rfl, rfl, by simp, by simp⟩
theorem Sx.sl0 {α : Type} : List.Sublist ([] : List α) [] := .slnil
theorem Sx.sl1 {α : Type} {a : α} {l m : List α} (h : List.Sublist l m) : List.Sublist (a :: l) (a :: m) := .cons_cons a h
theorem Sx.sl2 {α : Type} {a : α} {l m : List α} (h : List.Sublist l m) : List.Sublist l (a :: m) := .cons a h


/- The engine, second part: one law a kind of operation. -/
namespace Sx
open Go Go.RowKit

def vN (n : Fr) (N : Act → World → Prop) (kn : Kn) (w : World) : Prop := ∀ a, K n kn a → N a w
abbrev vcL (P : Program) (n : Fr) (L : List Oper) (Q : Exit → Act → World → Prop) (l : List Oper) (kn : Kn) (w : World) : Prop :=
  vN n (wpList P L.toArray Q l) kn w
/-- one operation, whatever comes behind it -/
def vS (P : Program) (n : Fr) (L : List Oper) (Q : Exit → Act → World → Prop) (o : Oper) (N : Act → World → Prop) (kn : Kn) (w : World) : Prop :=
  ∀ a, K n kn a → if Region.wanted o (yielded L.toArray a.tmps) then o.wp P a w N Q ∨ (o.asks P a w ∧ LetsOut Q) else N (a.put o.dst undef) w
/-- an operation yields a value and leaves the memory as it is -/
def Y (P : Program) (n : Fr) (kn : Kn) (w : World) (o : Oper) (v : Value) : Prop := ∀ a, K n kn a → (execOp a.eval o).run P w = .ok (.value v) w
def vcC (P : Program) (n : Fr) (c : Code) (Q : Exit → Act → World → Prop) (kn : Kn) (w : World) : Prop :=
  ∀ a, K n kn a → c.wp P Q a w
def vcQ (n : Fr) (Q : Exit → Act → World → Prop) (e : Exit) (kn : Kn) (w : World) : Prop :=
  ∀ a, K n kn a → Q e a w

abbrev str (l : List UInt8) : Value := .string ⟨l.toArray⟩

section
variable {P : Program} {n : Fr} {L : List Oper} {Q : Exit → Act → World → Prop} {kn : Kn} {w w0 : World} {M : List Nat} {hs : List Res} {rest : List Oper}

variable {N : Act → World → Prop}
theorem vc_e {o : Oper} (h : vS P n L Q o (wpList P L.toArray Q rest) kn w) : vcL P n L Q (o :: rest) kn w := h

theorem e_run {o : Oper} {v : Value} {w' : World} (hw : gd L kn o.guard = some true) (hd : okDst n o.dst = true)
    (hrun : ∀ a, K n kn a → (execOp a.eval o).run P w = .ok (.value v) w') (next : vN n N (put o.dst v kn) w') : vS P n L Q o N kn w := by
  intro a ha
  rw [if_pos (ha.gd hw)]
  refine .inl ?_
  unfold Oper.wp
  rw [hrun a ha]
  exact next _ (ha.put hd v)

theorem vc_y {o : Oper} {v : Value} (hw : gd L kn o.guard = some true) (hd : okDst n o.dst = true) (y : Y P n kn w o v) (next : vcL P n L Q rest (put o.dst v kn) w) : vcL P n L Q (o :: rest) kn w :=
  vc_e (e_run hw hd y next)

/-- an operation that only does: a store -/
theorem e_do {o : Oper} {w' : World} (hw : gd L kn o.guard = some true) (hd : o.dst = none)
    (hrun : ∀ a, K n kn a → (execOp a.eval o).run P w = .ok .skip w') (next : vN n N kn w') : vS P n L Q o N kn w := by
  intro a ha
  rw [if_pos (ha.gd hw)]
  refine .inl ?_
  unfold Oper.wp
  rw [hrun a ha]
  have := next a ha
  simpa [Oper.upon, Act.put, hd] using this

/-- not wanted -/
theorem e_skip {o : Oper} (hw : gd L kn o.guard = some false) (hd : okDst n o.dst = true) (next : vN n N (put o.dst undef kn) w) : vS P n L Q o N kn w := by
  intro a ha
  rw [if_neg (by rw [ha.gd hw]; simp)]
  exact next _ (ha.put hd undef)

variable {d ty : Nat} {pos : String} {aft : Array Edge} {g : Option (Nat × Bool)}

theorem y_mv {x : Operand} {v : Value} (hx : evO kn x = some v) : Y P n kn w ⟨some d, .move x, ty, pos, aft, g⟩ (v) :=
  (fun a ha => by simp only [execOp, ha.ev hx]; try rfl)
theorem y_as {x : Operand} {v : Value} (hx : evO kn x = some v) : Y P n kn w ⟨some d, .assign x, ty, pos, aft, g⟩ (v) :=
  (fun a ha => by simp only [execOp, ha.ev hx]; try rfl)
/-- a bool on which later operations hang: parted -/
theorem e_mvb {x : Operand} {b : Bool} (hw : gd L kn g = some true) (hd : okDst n (some d) = true) (hx : evO kn x = some (.bool b))
    (h1 : b = true → vN n N ((d, .bool true) :: kn) w) (h2 : b = false → vN n N ((d, .bool false) :: kn) w) : vS P n L Q ⟨some d, .move x, ty, pos, aft, g⟩ N kn w := by
  refine e_run hw hd (y_mv hx) ?_
  cases b
  · exact h2 rfl
  · exact h1 rfl
theorem y_pickt {c x y : Operand} {v : Value} (hc : evO kn c = some (.bool true)) (hx : evO kn x = some v) : Y P n kn w ⟨some d, .pick c x y, ty, pos, aft, g⟩ (v) :=
  (fun a ha => by simp only [execOp, ha.ev hx, ha.ev hc]; rfl)
theorem y_pickf {c x y : Operand} {v : Value} (hc : evO kn c = some (.bool false)) (hx : evO kn y = some v) : Y P n kn w ⟨some d, .pick c x y, ty, pos, aft, g⟩ (v) :=
  (fun a ha => by simp only [execOp, ha.ev hx, ha.ev hc]; rfl)
theorem y_ext {x : Operand} {i : Nat} {vs : List Value} {v : Value} (hx : evO kn x = some (.tuple vs.toArray)) (hv : nth vs i = some v) : Y P n kn w ⟨some d, .extract x i, ty, pos, aft, g⟩ (v) :=
  (fun a ha => by rw [nth_eq] at hv; simp only [execOp, ha.ev hx]; simp [Instr.extract, hv])
theorem y_nck {x : Operand} {p : Addr} (hx : evO kn x = some (.pointer (some p))) : Y P n kn w ⟨some d, .nilCheck x, ty, pos, aft, g⟩ (.pointer (some p)) :=
  (fun a ha => by simp only [execOp, ha.ev hx]; rfl)
theorem y_not {x : Operand} {T : Nat} {b : Bool} (hx : evO kn x = some (.bool b)) : Y P n kn w ⟨some d, .unOp .not T x, ty, pos, aft, g⟩ (.bool (!b)) :=
  (fun a ha => by simp only [execOp, ha.ev hx]; try rfl)

/-! ### fields and elements -/
theorem addr_add (b off k : Nat) : (⟨b, off, none⟩ : Addr).add k = ⟨b, off + k, none⟩ := by
  unfold Addr.add; split
  · rename_i h; subst h; rfl
  · rfl

theorem y_fa {x : Operand} {T i b off k s : Nat} {fs : Array Field} {f : Field} (hx : evO kn x = some (.pointer (some ⟨b, off, none⟩)))
  (ht : P.underlying T = some (.struct fs)) (hf : nth fs.toList i = some f) (hk : f.offset = k) (hs : ∀ w, (Go.sizeOf f.type).run P w = .ok s w) (h0 : Nat.blt 0 s = true) : Y P n kn w ⟨some d, .fieldAddr T x i, ty, pos, aft, g⟩ (.pointer (some ⟨b, off + k, none⟩)) :=
  (fun a ha => by
    subst hk
    rw [nth_eq] at hf
    have hf' : fs[i]? = some f := by simpa using hf
    have h0' : ¬ s = 0 := by have : 0 < s := by simpa [Nat.blt_eq] using h0
                             omega
    simp only [execOp, ha.ev hx]
    simp [Instr.fieldAt, run_underlying ht, hf', go_sem, hs, h0', addr_add])
theorem y_fa0 {x : Operand} {T i b off s : Nat} {fs : Array Field} {f : Field} (hx : evO kn x = some (.pointer (some ⟨b, off, none⟩)))
  (ht : P.underlying T = some (.struct fs)) (hf : nth fs.toList i = some f) (hk : f.offset = 0) (hs : ∀ w, (Go.sizeOf f.type).run P w = .ok s w) (h0 : Nat.blt 0 s = true) : Y P n kn w ⟨some d, .fieldAddr T x i, ty, pos, aft, g⟩ (.pointer (some ⟨b, off, none⟩)) :=
  y_fa hx ht hf hk hs h0
theorem y_faz {x : Operand} {T i b k s : Nat} {fs : Array Field} {f : Field} (hx : evO kn x = some (.pointer (some ⟨b, 0, none⟩)))
    (ht : P.underlying T = some (.struct fs)) (hf : nth fs.toList i = some f) (hk : f.offset = k) (hs : ∀ w, (Go.sizeOf f.type).run P w = .ok s w) (h0 : Nat.blt 0 s = true) :
    Y P n kn w ⟨some d, .fieldAddr T x i, ty, pos, aft, g⟩ (.pointer (some ⟨b, k, none⟩)) := by
  have := y_fa (P := P) (n := n) (w := w) (d := d) (ty := ty) (pos := pos) (aft := aft) (g := g) hx ht hf hk hs h0
  rwa [Nat.zero_add] at this
theorem y_ia {x ix : Operand} {T E b off k sz len cap : Nat} {ik : IntKind} {i : Int} 
  (hx : evO kn x = some (.slice (some ⟨b, off, none⟩) len cap)) (hix : evO kn ix = some (.int ik i))
  (ht : P.underlying T = some (.slice E)) (hs : ∀ w, (Go.sizeOf E).run P w = .ok sz w) (hk : i = (k : Int)) (hlt : k < len) : Y P n kn w ⟨some d, .indexAddr T x ix, ty, pos, aft, g⟩ (.pointer (some ⟨b, off + k * sz, none⟩)) :=
  (fun a ha => by
    subst hk
    have h2 : (k : Int) < (len : Int) := by omega
    simp only [execOp, ha.ev hx, ha.ev hix]
    simp [Instr.indexAt, asIntOf, run_underlying ht, go_sem, hs, h2, addr_add]
    intro; omega)
theorem y_ia0 {x ix : Operand} {T E b k sz len cap : Nat} {ik : IntKind} {i : Int} 
  (hx : evO kn x = some (.slice (some ⟨b, 0, none⟩) len cap)) (hix : evO kn ix = some (.int ik i))
  (ht : P.underlying T = some (.slice E)) (hs : ∀ w, (Go.sizeOf E).run P w = .ok sz w) (hk : i = (k : Int)) (hlt : k < len) : Y P n kn w ⟨some d, .indexAddr T x ix, ty, pos, aft, g⟩ (.pointer (some ⟨b, k * sz, none⟩)) :=
  by simpa using y_ia hx hix ht hs hk hlt
/-- an array's element -/
theorem y_iaa {x ix : Operand} {T E b off k sz len : Nat} {ik : IntKind} {i : Int} 
  (hx : evO kn x = some (.pointer (some ⟨b, off, none⟩))) (hix : evO kn ix = some (.int ik i))
  (ht : P.underlying T = some (.array len E)) (hs : ∀ w, (Go.sizeOf E).run P w = .ok sz w) (hk : i = (k : Int)) (hlt : k < len) : Y P n kn w ⟨some d, .indexAddr T x ix, ty, pos, aft, g⟩ (.pointer (some ⟨b, off + k * sz, none⟩)) :=
  (fun a ha => by
    subst hk
    have h2 : (k : Int) < (len : Int) := by omega
    simp only [execOp, ha.ev hx, ha.ev hix]
    simp [Instr.indexAt, Instr.sureAddr, asIntOf, run_underlying ht, go_sem, hs, h2, addr_add]
    intro; omega)

/-! ### loads -/
def dropN {α : Type} : List α → Nat → List α
  | l, 0 => l
  | [], _ => []
  | _ :: r, k + 1 => dropN r k
def takeN {α : Type} : Nat → List α → Option (List α)
  | 0, _ => some []
  | _ + 1, [] => none
  | k + 1, x :: r => match takeN k r with | some t => some (x :: t) | none => none
theorem dropN_eq {α : Type} (l : List α) (k : Nat) : dropN l k = l.drop k := by
  induction k generalizing l with
  | zero => cases l <;> simp [dropN]
  | succ k ih => cases l <;> simp [dropN, ih]
theorem takeN_spec {α : Type} {k : Nat} {l t : List α} (h : takeN k l = some t) : t = l.take k ∧ t.length = k := by
  induction k generalizing l t with
  | zero => simp [takeN] at h; subst h; simp
  | succ k ih =>
    cases l with
    | nil => simp [takeN] at h
    | cons x r =>
      simp only [takeN] at h
      split at h
      · rename_i t' ht'
        obtain ⟨rfl, hl⟩ := ih ht'
        simp only [Option.some.injEq] at h
        subst h
        simp [hl]
      · cases h

theorem cell_blk {b off : Nat} {l : List Value} {E : Nat} {fz : Nat × Nat} {v : Value} (h : w.heap[b]? = some (.cells l.toArray E fz)) (hv : nth l off = some v) : w.cell? ⟨b, off, none⟩ = some v := by
  rw [nth_eq] at hv
  simp [World.cell?, h, hv]

theorem y_ldc {x : Operand} {T b off : Nat} {v : Value} (hx : evO kn x = some (.pointer (some ⟨b, off, none⟩)))
  (ha : ∀ w, (Go.isAgg T).run P w = .ok false w) (hc : w.cell? ⟨b, off, none⟩ = some v) : Y P n kn w ⟨some d, .load T x, ty, pos, aft, g⟩ (v) :=
  (fun a hk => by
    simp only [execOp, hk.ev hx]
    simp [Instr.loadAt, Instr.sureAddr, loadVar, ha, hc, go_sem])
theorem y_ld (st : St w0 M hs w) (i : Nat) {x : Operand} {T b off E : Nat} {l : List Value} {fz : Nat × Nat} {v : Value} (hx : evO kn x = some (.pointer (some ⟨b, off, none⟩)))
  (ha : ∀ w, (Go.isAgg T).run P w = .ok false w) (hi : nth hs i = some (.blk b (.cells l.toArray E fz))) (hv : nth l off = some v) : Y P n kn w ⟨some d, .load T x, ty, pos, aft, g⟩ (v) :=
  y_ldc hx ha (cell_blk (st.res hi) hv)
theorem y_ldca {x : Operand} {T b off sz : Nat} (vs : List Value) (hx : evO kn x = some (.pointer (some ⟨b, off, none⟩)))
  (ha : ∀ w, (Go.isAgg T).run P w = .ok true w) (hs : ∀ w, (Go.sizeOf T).run P w = .ok sz w) (hl : vs.length = sz) (hc : ∀ j v, vs[j]? = some v → w.cell? ⟨b, off + j, none⟩ = some v) : Y P n kn w ⟨some d, .load T x, ty, pos, aft, g⟩ (.agg vs.toArray) :=
  (fun a hk => by
    simp only [execOp, hk.ev hx]
    have := run_loadCells_list (P := P) (w := w) ⟨b, off, none⟩ vs (fun j v hj => by rw [addr_add]; exact hc j v hj)
    subst hl
    unfold loadCells at this
    simp [Instr.loadAt, Instr.sureAddr, loadVar, ha, hs, this, go_sem])
theorem y_lda (st : St w0 M hs w) (i : Nat) {x : Operand} {T b off E sz : Nat} {l : List Value} {fz : Nat × Nat} {vs : List Value} (hx : evO kn x = some (.pointer (some ⟨b, off, none⟩)))
    (ha : ∀ w, (Go.isAgg T).run P w = .ok true w) (hsz : ∀ w, (Go.sizeOf T).run P w = .ok sz w) (hi : nth hs i = some (.blk b (.cells l.toArray E fz))) (hv : takeN sz (dropN l off) = some vs) :
    Y P n kn w ⟨some d, .load T x, ty, pos, aft, g⟩ (.agg vs.toArray) := by
  obtain ⟨h1, h2⟩ := takeN_spec hv
  refine y_ldca vs hx ha hsz h2 (fun j v hj => ?_)
  refine cell_blk (st.res hi) ?_
  rw [nth_eq]
  rw [h1, dropN_eq, List.getElem?_take] at hj
  split at hj
  · rw [List.getElem?_drop] at hj; exact hj
  · cases hj

/-! ### stores, new blocks -/
theorem Chg.setCell (w : World) (p : Addr) (v : Value) : Chg [p.block] w (w.setCell p v) :=
  ⟨rfl, rfl, rfl, by simp [World.setCell], fun k hk hn => Below.heap_setCell w p v k (by simpa using hn)⟩

theorem heap_setCell_blk {b off : Nat} {l : List Value} {E : Nat} (v : Value) (h : w.heap[b]? = some (.cells l.toArray E (0, 0))) :
    (w.setCell ⟨b, off, none⟩ v).heap[b]? = some (.cells (setNth l off v).toArray E (0, 0)) := by
  rw [heap_setCell_same w b off l.toArray E v h, setNth_eq]
  simp

theorem run_storeCells_blk (b E : Nat) : ∀ (vs : List Value) (l : List Value) (off i : Nat) (w : World), w.heap[b]? = some (.cells l.toArray E (0, 0)) → off + i + vs.length ≤ l.length → (∀ v ∈ vs, v.oneCell' = true) →
    ∃ w' l', (storeCells ⟨b, off, none⟩ vs i).run P w = .ok () w' ∧ w'.heap[b]? = some (.cells l'.toArray E (0, 0)) ∧ Chg [b] w w' ∧ l' = l.take (off + i) ++ vs ++ l.drop (off + i + vs.length)
  | [], l, off, i, w, h, hl, h1 => ⟨w, l, by simp [storeCells, go_sem], h, Chg.refl _ _, by simp⟩
  | v :: vs, l, off, i, w, h, hl, h1 => by
    simp only [List.length_cons] at hl
    have hc : w.cell? ⟨b, off + i, none⟩ = some (l[off + i]'(by omega)) := cell_blk h (by rw [nth_eq]; simp)
    have hf : w.frozen? ⟨b, off + i, none⟩ = false := frozen_of_row w b (off + i) l.toArray E h
    have h' := heap_setCell_blk (off := off + i) v h
    rw [setNth_eq] at h'
    obtain ⟨w', l', hr, hh, hc', hl'⟩ := run_storeCells_blk b E vs (l.set (off + i) v) off (i + 1) _ h' (by simp; omega) (fun u hu => h1 u (.tail _ hu))
    refine ⟨w', l', ?_, hh, (Chg.setCell w ⟨b, off + i, none⟩ v).trans hc', ?_⟩
    · have hone : v.oneCell' = true := h1 v (.head _)
      have hst : (store ⟨b, off + i, none⟩ v).run P w = .ok () (w.setCell ⟨b, off + i, none⟩ v) := by
        cases v <;> first | (simp [Value.oneCell'] at hone; done) | simp [store, Sem.run, hc, hf]
      simp only [storeCells, Sem.run_bind, addr_add, hst, Result.andThen_ok]
      exact hr
    · rw [hl', show off + (i + 1) = (off + i) + 1 from by omega, List.take_set, List.drop_set, if_pos (by omega), List.take_succ_eq_append_getElem (by omega : off + i < l.length)]
      rw [List.set_append_right _ _ (by simp; omega)]
      simp only [List.length_take, Nat.min_eq_left (by omega : off + i ≤ l.length), Nat.sub_self, List.set_cons_zero, List.append_assoc, List.cons_append, List.nil_append, List.length_cons]
      try rw [show off + i + 1 + vs.length = off + i + (vs.length + 1) from by omega]

def wr : List Value → Nat → List Value → List Value
  | l, 0, [] => l
  | _ :: r, 0, v :: vs => v :: wr r 0 vs
  | [], 0, _ :: _ => []
  | x :: r, k + 1, vs => x :: wr r k vs
  | [], _ + 1, _ => []

theorem wr_eq : ∀ (l : List Value) (off : Nat) (vs : List Value), off + vs.length ≤ l.length → wr l off vs = l.take off ++ vs ++ l.drop (off + vs.length)
  | l, 0, [], _ => by simp [wr]
  | x :: r, 0, v :: vs, h => by
    simp only [List.length_cons] at h
    have := wr_eq r 0 vs (by omega)
    simp only [wr, this]; simp
  | [], 0, v :: vs, h => by simp at h
  | x :: r, k + 1, vs, h => by
    simp only [List.length_cons] at h
    have := wr_eq r k vs (by omega)
    simp only [wr, this]
    simp [show k + 1 + vs.length = (k + vs.length) + 1 from by omega]
  | [], k + 1, vs, h => by simp at h

def allOne (vs : List Value) : Bool := match vs with | [] => true | v :: r => match v.oneCell' with | true => allOne r | false => false
theorem allOne_spec {vs : List Value} (h : allOne vs = true) : ∀ v ∈ vs, v.oneCell' = true := by
  induction vs with
  | nil => simp
  | cons v r ih =>
    simp only [allOne] at h
    split at h
    · rename_i h1
      intro u hu
      rcases List.mem_cons.1 hu with rfl | hu
      · exact h1
      · exact ih h u hu
    · cases h

theorem e_sts (st : St w0 M hs w) (i : Nat) {x y : Operand} {T b off E : Nat} {l : List Value} {v : Value} {vs : List Value} (hw : gd L kn g = some true) (hx : evO kn x = some (.pointer (some ⟨b, off, none⟩)))
    (hy : evO kn y = some v) (hv : v.cells.toList = vs) (h1 : allOne vs = true) (hsz : ∀ w, (Go.sizeOf T).run P w = .ok vs.length w)
    (hi : nth hs i = some (.blk b (.cells l.toArray E (0, 0)))) (hlt : Nat.ble (off + vs.length) l.length = true) (hm : b ∈ M ∨ w0.heap.size ≤ b)
    (next : ∀ w', St w0 M (setNth hs i (.blk b (.cells (wr l off vs).toArray E (0, 0)))) w' → vN n N kn w') : vS P n L Q (⟨none, .store T x y, ty, pos, aft, g⟩) N kn w := by
  have hle : off + vs.length ≤ l.length := by simpa [Nat.ble_eq] using hlt
  obtain ⟨w', l', hr, hh, hc, hl⟩ := run_storeCells_blk (P := P) b E vs l off 0 w (st.res hi) (by simpa using hle) (allOne_spec h1)
  refine e_do hw rfl (w' := w') (fun a ha => ?_) (next w' (st.turn hi rfl rfl hc hm ?_))
  · simp only [execOp, ha.ev hx, ha.ev hy]
    have hsz' : v.cells.size = vs.length := by rw [← hv]; simp
    have key : (storeVar T ⟨b, off, none⟩ v).run P w = .ok () w' := by
      simp only [storeVar, Sem.run_bind, hsz, Result.andThen_ok, hsz', ne_eq, not_true_eq_false, ↓reduceIte, hv, hr]
    simp only [Instr.storeAt, Instr.sureAddr, Sem.run_bind, Sem.run_pure, Result.andThen_ok, key]
  · have : wr l off vs = l' := by rw [hl, wr_eq l off vs hle]; simp
    simpa [Res.holds, this] using hh

/-- a scalar stored -/
theorem e_st (st : St w0 M hs w) (i : Nat) {x y : Operand} {T b off E : Nat} {l : List Value} {v : Value} (hw : gd L kn g = some true) (hx : evO kn x = some (.pointer (some ⟨b, off, none⟩)))
    (hy : evO kn y = some v) (h1 : v.oneCell' = true) (hsz : ∀ w, (Go.sizeOf T).run P w = .ok 1 w)
    (hi : nth hs i = some (.blk b (.cells l.toArray E (0, 0)))) (hlt : Nat.blt off l.length = true) (hm : b ∈ M ∨ w0.heap.size ≤ b)
    (next : ∀ w', St w0 M (setNth hs i (.blk b (.cells (setNth l off v).toArray E (0, 0)))) w' → vN n N kn w') : vS P n L Q (⟨none, .store T x y, ty, pos, aft, g⟩) N kn w := by
  have hlt' : off < l.length := by simpa [Nat.blt_eq] using hlt
  have hcs : v.cells.toList = [v] := by cases v <;> first | rfl | (simp [Value.oneCell'] at h1)
  refine e_sts st i (vs := [v]) hw hx hy hcs (by simp [allOne, h1]) hsz hi (by simp only [Nat.ble_eq, List.length_cons, List.length_nil]; omega) hm (fun w' st' => next w' ?_)
  have : wr l off [v] = setNth l off v := by
    rw [wr_eq l off [v] (by simp only [List.length_cons, List.length_nil]; omega), setNth_eq, List.set_eq_take_append_cons_drop, if_pos hlt']; simp
  rwa [this] at st'

theorem heap_alloc (w : World) (o : Obj) : (w.alloc o).heap[w.heap.size]? = some o := heap_alloc_new w o

/-- a block of the call's own comes to be -/
theorem e_new (st : St w0 M hs w) {o : Oper} {v : Value} {E : Nat} {l : List Value} (hw : gd L kn o.guard = some true) (hd : okDst n o.dst = true)
    (hrun : ∀ a, K n kn a → (execOp a.eval o).run P w = .ok (.value v) (w.alloc (.cells l.toArray E (0, 0))))
    (next : ∀ b w', b = w.heap.size → w0.heap.size ≤ b → St w0 M (.blk b (.cells l.toArray E (0, 0)) :: hs) w' → vN n N (put o.dst v kn) w') : vS P n L Q (o) N kn w :=
  e_run hw hd hrun (next w.heap.size _ rfl st.chg.size (st.push (Chg.alloc w _) (heap_alloc w _) rfl))

theorem e_al (st : St w0 M hs w) {T : Nat} {z : Value} {l : List Value} (hw : gd L kn g = some true) (hd : okDst n (some d) = true)
    (hz : ∀ w, (zeroValue T).run P w = .ok z w) (hl : z.cells.toList = l)
    (next : ∀ b w', w0.heap.size ≤ b → St w0 M (.blk b (.cells l.toArray T (0, 0)) :: hs) w' → vN n N ((d, .pointer (some ⟨b, 0, none⟩)) :: kn) w') : vS P n L Q (⟨some d, .alloc T, ty, pos, aft, g⟩) N kn w :=
  e_new st (v := .pointer (some ⟨w.heap.size, 0, none⟩)) (l := l) (E := T) hw hd (fun a ha => by
    have : z.cells = l.toArray := by rw [← hl]
    simp only [execOp, Instr.alloc, Sem.run_bind, hz, Result.andThen_ok, ← this]
    rfl) (fun b w' e hb st' => by subst e; exact next _ w' hb st')
theorem e_bx (st : St w0 M hs w) {x : Operand} {T : Nat} {v : Value} {l : List Value} (hw : gd L kn g = some true) (hd : okDst n (some d) = true)
    (hx : evO kn x = some v) (hl : v.cells.toList = l)
    (next : ∀ b w', w0.heap.size ≤ b → St w0 M (.blk b (.cells l.toArray T (0, 0)) :: hs) w' → vN n N ((d, .pointer (some ⟨b, 0, none⟩)) :: kn) w') : vS P n L Q (⟨some d, .box T x, ty, pos, aft, g⟩) N kn w :=
  e_new st (v := .pointer (some ⟨w.heap.size, 0, none⟩)) (l := l) (E := T) hw hd (fun a ha => by
    have : v.cells = l.toArray := by rw [← hl]
    simp only [execOp, ha.ev hx, Instr.box, ← this]
    rfl) (fun b w' e hb st' => by subst e; exact next _ w' hb st')

/-! ### strings, numbers -/
theorem str_toList (l : List UInt8) : (⟨l.toArray⟩ : ByteArray).toList = l := by rw [ByteArray.toList_eq]
theorem str_size (l : List UInt8) : (⟨l.toArray⟩ : ByteArray).size = l.length := rfl

theorem evs_list {a : Act} (ha : K n kn a) : ∀ {az : List Operand} {vals : List Value}, az.map (evO kn) = vals.map some → az.map a.eval = vals
  | [], [], _ => rfl
  | [], _ :: _, h => by simp at h
  | _ :: _, [], h => by simp at h
  | x :: xs, v :: vs, h => by
    simp only [List.map_cons, List.cons.injEq] at h
    simp only [List.map_cons, ha.ev h.1, evs_list ha h.2]
theorem evs_map {a : Act} (ha : K n kn a) {args : Array Operand} {vals : List Value} (hv : args.toList.map (evO kn) = vals.map some) : args.map a.eval = vals.toArray := by
  apply Array.toList_inj.1
  rw [Array.toList_map, evs_list ha hv]

theorem run_bi {b : Builtin} {args : Array Operand} {tys : Array TypeId} {v : Value} {w' : World} (vals : List Value)
    (hv : args.toList.map (evO kn) = vals.map some)
    (hrun : ∀ cs, (builtin b tys ty cs vals.toArray).run P w = .ok (.value v) w') {a : Act} (ha : K n kn a) :
    (execOp a.eval ⟨some d, .call ⟨.builtin b, args, tys⟩, ty, pos, aft, g⟩).run P w = .ok (.value v) w' := by
  have hargs := evs_map ha hv
  simp only [execOp, resolve, hargs, Sem.run_bind, Sem.run_pure, Result.andThen_ok, invoke, hrun]
/-- a builtin call, by the run of its body -/
theorem e_bi {b : Builtin} {args : Array Operand} {tys : Array TypeId} {v : Value} {w' : World} (vals : List Value) (hw : gd L kn g = some true) (hd : okDst n (some d) = true)
    (hv : args.toList.map (evO kn) = vals.map some)
    (hrun : ∀ cs, (builtin b tys ty cs vals.toArray).run P w = .ok (.value v) w')
    (next : vN n N ((d, v) :: kn) w') : vS P n L Q ⟨some d, .call ⟨.builtin b, args, tys⟩, ty, pos, aft, g⟩ N kn w :=
  e_run hw hd (fun a ha => run_bi vals hv hrun ha) next
theorem y_bi {b : Builtin} {args : Array Operand} {tys : Array TypeId} {v : Value} (vals : List Value)
    (hv : args.toList.map (evO kn) = vals.map some)
    (hrun : ∀ cs, (builtin b tys ty cs vals.toArray).run P w = .ok (.value v) w) : Y P n kn w ⟨some d, .call ⟨.builtin b, args, tys⟩, ty, pos, aft, g⟩ v :=
  fun a ha => run_bi vals hv hrun ha

theorem y_lens {x : Operand} {T : Nat} {l : List UInt8} (hx : evO kn x = some (str l))
  (ht : P.underlying T = some .string) : Y P n kn w ⟨some d, .call ⟨.builtin .len, #[x], #[T]⟩, ty, pos, aft, g⟩ (.int .i64 (l.length : Int)) :=
  y_bi [str l] (by simp [hx]) (fun cs => by
    simp only [builtin, Builtin.len_, Sem.run_bind]
    simp [run_underlying ht, goInt, str_size])
theorem y_lensl {x : Operand} {T E len cap : Nat} {oa : Option Addr} (hx : evO kn x = some (.slice oa len cap))
  (ht : P.underlying T = some (.slice E)) : Y P n kn w ⟨some d, .call ⟨.builtin .len, #[x], #[T]⟩, ty, pos, aft, g⟩ (.int .i64 (len : Int)) :=
  y_bi [.slice oa len cap] (by simp [hx]) (fun cs => by
    simp only [builtin, Builtin.len_, Sem.run_bind]
    simp [run_underlying ht, goInt])
theorem y_ixs {x ix : Operand} {T k : Nat} {l : List UInt8} {ik : IntKind} {i : Int} (hx : evO kn x = some (str l)) (hix : evO kn ix = some (.int ik i))
  (ht : P.underlying T = some .string) (hk : i = (k : Int)) (hlt : k < l.length) : Y P n kn w ⟨some d, .index T x ix, ty, pos, aft, g⟩ (.int .u8 ((l.getD k 0).toNat : Int)) :=
  (fun a ha => by
    subst hk
    have h2 : (k : Int) < ((⟨l.toArray⟩ : ByteArray).size : Int) := by rw [str_size]; omega
    simp only [execOp, ha.ev hx, ha.ev hix]
    simp [Instr.index, asIntOf, run_underlying ht, go_sem, h2]
    have h3 : k < (⟨l.toArray⟩ : ByteArray).size := hlt
    have h4 : l[k]? = some (l[k]'hlt) := List.getElem?_eq_getElem hlt
    simp [h3, h4, getElem!_def, ByteArray.get!, getElem?_pos, hlt]
    rfl)

theorem str_extract (l : List UInt8) (i j : Nat) : Value.string ((⟨l.toArray⟩ : ByteArray).extract i j) = str ((l.drop i).take (j - i)) := by
  have h : ((⟨l.toArray⟩ : ByteArray).extract i j).data = ((l.drop i).take (j - i)).toArray := by
    apply Array.toList_inj.1
    rw [← ByteArray.toList_eq, Lib.extract_toList]
  have h2 : (⟨l.toArray⟩ : ByteArray).extract i j = ⟨((l.drop i).take (j - i)).toArray⟩ := by rw [← h]
  rw [h2]

/-- s[i:j] -/
theorem y_sls {x lo hi : Operand} {T i j : Nat} {l : List UInt8} {ik jk : IntKind} {ii jj : Int} (hx : evO kn x = some (str l))
  (hlo : evO kn lo = some (.int ik ii)) (hhi : evO kn hi = some (.int jk jj)) (ht : P.underlying T = some .string) (hi1 : ii = (i : Int)) (hj1 : jj = (j : Int)) (hij : i ≤ j) (hj : j ≤ l.length) : Y P n kn w ⟨some d, .slice T x (some lo) (some hi) none, ty, pos, aft, g⟩ (str ((l.drop i).take (j - i))) :=
  (fun a ha => by
    subst hi1; subst hj1
    have h2 : (j : Int) ≤ ((⟨l.toArray⟩ : ByteArray).size : Int) := by rw [str_size]; omega
    have h3 : (i : Int) ≤ (j : Int) := by omega
    simp only [execOp, Option.map_some, Option.map_none, ha.ev hx, ha.ev hlo, ha.ev hhi]
    simp only [← str_extract]
    simp [Instr.sliceAt, Instr.slice, Instr.sliceBounds, Instr.sliceBound, asIntOf, run_underlying ht, h2, h3, str_size, hij, hj])
/-- s[i:] -/
theorem y_slf {x lo : Operand} {T i : Nat} {l : List UInt8} {ik : IntKind} {ii : Int} (hx : evO kn x = some (str l))
  (hlo : evO kn lo = some (.int ik ii)) (ht : P.underlying T = some .string) (hi1 : ii = (i : Int)) (hi : i ≤ l.length) : Y P n kn w ⟨some d, .slice T x (some lo) none none, ty, pos, aft, g⟩ (str (l.drop i)) :=
  (fun a ha => by
    subst hi1
    have h3 : (i : Int) ≤ ((⟨l.toArray⟩ : ByteArray).size : Int) := by rw [str_size]; omega
    have h4 : l.drop i = (l.drop i).take (l.length - i) := by rw [List.take_of_length_le (by simp)]
    rw [h4, ← str_extract]
    simp only [execOp, Option.map_some, Option.map_none, ha.ev hx, ha.ev hlo]
    simp [Instr.sliceAt, Instr.slice, Instr.sliceBounds, Instr.sliceBound, asIntOf, run_underlying ht, h3, str_size, hi])
/-- a binary operation, by its run -/
theorem y_bo {op : BinOp} {T U : Nat} {x y : Operand} {u v r : Value} (hx : evO kn x = some u) (hy : evO kn y = some v)
  (hrun : (do eqGuard op T x y u v; binOp op T u v : Sem Value).run P w = .ok r w) : Y P n kn w ⟨some d, .binOp op T x y U, ty, pos, aft, g⟩ (r) :=
  (fun a ha => by
    simp only [execOp, ha.ev hx, ha.ev hy]
    rw [Sem.run_bind, hrun]; rfl)

theorem y_add {T U : Nat} {x y : Operand} {p q r : Int} (hx : evO kn x = some (.int .i64 p)) (hy : evO kn y = some (.int .i64 q))
  (hr : p + q = r) (h1 : -9223372036854775808 ≤ r) (h2 : r ≤ 9223372036854775807) : Y P n kn w ⟨some d, .binOp .add T x y U, ty, pos, aft, g⟩ (.int .i64 r) :=
  y_bo hx hy (by subst hr; simp [eqGuard, binOp, Op.intArith, IntWalk.i64_in (p + q) ⟨h1, h2⟩])
theorem y_sub {T U : Nat} {x y : Operand} {p q r : Int} (hx : evO kn x = some (.int .i64 p)) (hy : evO kn y = some (.int .i64 q))
  (hr : p - q = r) (h1 : -9223372036854775808 ≤ r) (h2 : r ≤ 9223372036854775807) : Y P n kn w ⟨some d, .binOp .sub T x y U, ty, pos, aft, g⟩ (.int .i64 r) :=
  y_bo hx hy (by subst hr; simp [eqGuard, binOp, Op.intArith, IntWalk.i64_in (p - q) ⟨h1, h2⟩])

theorem wrap_u64 (x : Int) : IntKind.u64.wrap x = x % 18446744073709551616 := by simp [IntKind.wrap, IntKind.bits, IntKind.signed]
theorem wrap_u8 (x : Int) : IntKind.u8.wrap x = x % 256 := by simp [IntKind.wrap, IntKind.bits, IntKind.signed]
theorem y_addk {T U : Nat} {x y : Operand} {p q r : Int} {k : IntKind} (hx : evO kn x = some (.int k p)) (hy : evO kn y = some (.int k q)) (hr : k.wrap (p + q) = r) :
    Y P n kn w ⟨some d, .binOp .add T x y U, ty, pos, aft, g⟩ (.int k r) := y_bo hx hy (by subst hr; simp [eqGuard, binOp, Op.intArith])
theorem y_subk {T U : Nat} {x y : Operand} {p q r : Int} {k : IntKind} (hx : evO kn x = some (.int k p)) (hy : evO kn y = some (.int k q)) (hr : k.wrap (p - q) = r) :
    Y P n kn w ⟨some d, .binOp .sub T x y U, ty, pos, aft, g⟩ (.int k r) := y_bo hx hy (by subst hr; simp [eqGuard, binOp, Op.intArith])
theorem y_mulk {T U : Nat} {x y : Operand} {p q r : Int} {k : IntKind} (hx : evO kn x = some (.int k p)) (hy : evO kn y = some (.int k q)) (hr : k.wrap (p * q) = r) :
    Y P n kn w ⟨some d, .binOp .mul T x y U, ty, pos, aft, g⟩ (.int k r) := y_bo hx hy (by subst hr; simp [eqGuard, binOp, Op.intArith])
theorem y_quok {T U : Nat} {x y : Operand} {p q r : Int} {k : IntKind} (hx : evO kn x = some (.int k p)) (hy : evO kn y = some (.int k q)) (h0 : 0 ≤ p) (hq : 0 < q) (hr : k.wrap (p / q) = r) :
    Y P n kn w ⟨some d, .binOp .quo T x y U, ty, pos, aft, g⟩ (.int k r) := y_bo hx hy (by
      have h1 : ¬ q = 0 := by omega
      have h2 : p.tdiv q = p / q := Int.tdiv_eq_ediv_of_nonneg h0
      subst hr; simp [eqGuard, binOp, Op.intDiv, h1, h2])
theorem y_remk {T U : Nat} {x y : Operand} {p q r : Int} {k : IntKind} (hx : evO kn x = some (.int k p)) (hy : evO kn y = some (.int k q)) (h0 : 0 ≤ p) (hq : 0 < q) (hr : p % q = r) :
    Y P n kn w ⟨some d, .binOp .rem T x y U, ty, pos, aft, g⟩ (.int k r) := y_bo hx hy (by
      have h1 : ¬ q = 0 := by omega
      have h2 : p.tmod q = p % q := Int.tmod_eq_emod_of_nonneg h0
      subst hr; simp [eqGuard, binOp, Op.intDiv, h1, h2])
theorem y_cvi {T U : Nat} {x : Operand} {p r : Int} {k k' : IntKind} {td : TypeDesc} (hx : evO kn x = some (.int k p)) (ht : P.underlying U = some (.int k')) (hs : P.underlying T = some td) (hr : k'.wrap p = r) :
    Y P n kn w ⟨some d, .convert T U x, ty, pos, aft, g⟩ (.int k' r) := fun a ha => by
  subst hr
  simp only [execOp, ha.ev hx]
  simp [convert, run_underlying ht, run_underlying hs, Conv.intToInt]
theorem y_lss {T U : Nat} {x y : Operand} {p q : Int} {k : IntKind} (hx : evO kn x = some (.int k p)) (hy : evO kn y = some (.int k q)) : Y P n kn w ⟨some d, .binOp .lss T x y U, ty, pos, aft, g⟩ (.bool (decide (p < q))) :=
  y_bo hx hy (by simp [eqGuard, binOp, Op.intCmp])
theorem y_leq {T U : Nat} {x y : Operand} {p q : Int} {k : IntKind} (hx : evO kn x = some (.int k p)) (hy : evO kn y = some (.int k q)) : Y P n kn w ⟨some d, .binOp .leq T x y U, ty, pos, aft, g⟩ (.bool (decide (p ≤ q))) :=
  y_bo hx hy (by simp [eqGuard, binOp, Op.intCmp])
theorem y_gtr {T U : Nat} {x y : Operand} {p q : Int} {k : IntKind} (hx : evO kn x = some (.int k p)) (hy : evO kn y = some (.int k q)) : Y P n kn w ⟨some d, .binOp .gtr T x y U, ty, pos, aft, g⟩ (.bool (decide (q < p))) :=
  y_bo hx hy (by simp [eqGuard, binOp, Op.intCmp])
theorem y_geq {T U : Nat} {x y : Operand} {p q : Int} {k : IntKind} (hx : evO kn x = some (.int k p)) (hy : evO kn y = some (.int k q)) : Y P n kn w ⟨some d, .binOp .geq T x y U, ty, pos, aft, g⟩ (.bool (decide (q ≤ p))) :=
  y_bo hx hy (by simp [eqGuard, binOp, Op.intCmp])
theorem y_eqi {T U : Nat} {x y : Operand} {p q : Int} {k : IntKind} (hx : evO kn x = some (.int k p)) (hy : evO kn y = some (.int k q)) : Y P n kn w ⟨some d, .binOp .eql T x y U, ty, pos, aft, g⟩ (.bool (decide (p = q))) :=
  y_bo hx hy (by simp [eqGuard, binOp, Op.intCmp]; rfl)
theorem y_nei {T U : Nat} {x y : Operand} {p q : Int} {k : IntKind} (hx : evO kn x = some (.int k p)) (hy : evO kn y = some (.int k q)) : Y P n kn w ⟨some d, .binOp .neq T x y U, ty, pos, aft, g⟩ (.bool (!decide (p = q))) :=
  y_bo hx hy (by simp [eqGuard, binOp, Op.intCmp]; rfl)
theorem y_eqs {T U : Nat} {x y : Operand} {p q : List UInt8} (hx : evO kn x = some (str p)) (hy : evO kn y = some (str q)) : Y P n kn w ⟨some d, .binOp .eql T x y U, ty, pos, aft, g⟩ (.bool (decide (p = q))) :=
  y_bo hx hy (by simp [eqGuard, binOp, Op.stringOp, str_toList]; first | done | (rw [Bool.eq_iff_iff]; simp))
theorem y_nes {T U : Nat} {x y : Operand} {p q : List UInt8} (hx : evO kn x = some (str p)) (hy : evO kn y = some (str q)) : Y P n kn w ⟨some d, .binOp .neq T x y U, ty, pos, aft, g⟩ (.bool (!decide (p = q))) :=
  y_bo hx hy (by simp [eqGuard, binOp, Op.stringOp, str_toList]; first | done | (rw [Bool.eq_iff_iff]; simp))
theorem y_mf {f : Fn} {first captured : Array Operand} (fv cv : List Value) (hf : first.toList.map (evO kn) = fv.map some) (hc : captured.toList.map (evO kn) = cv.map some) :
    Y P n kn w ⟨some d, .makeFunc f first captured, ty, pos, aft, g⟩ (.func f fv.toArray cv.toArray) := fun a ha => by
  have h1 := evs_map ha hf
  have h2 := evs_map ha hc
  simp only [execOp, h1, h2]
  simp [Instr.makeFunc, go_sem]
theorem y_cat {T U : Nat} {x y : Operand} {p q : List UInt8} (hx : evO kn x = some (str p)) (hy : evO kn y = some (str q))
  (h : p.length + q.length ≤ 9223372036854775807) : Y P n kn w ⟨some d, .binOp .add T x y U, ty, pos, aft, g⟩ (str (p ++ q)) :=
  y_bo hx hy (by
    have e : (⟨p.toArray⟩ ++ ⟨q.toArray⟩ : ByteArray) = ⟨(p ++ q).toArray⟩ := by
      have : (⟨p.toArray⟩ ++ ⟨q.toArray⟩ : ByteArray).data = (p ++ q).toArray := by
        apply Array.toList_inj.1
        simp
      rw [← this]
    rw [Sem.run_bind]
    simp only [eqGuard, binOp]
    have hr : (Op.stringOp .add ⟨p.toArray⟩ ⟨q.toArray⟩).run P w = _ := run_string_add_sum (P := P) _ _ _ (by rw [str_size, str_size]; exact h)
    simp [hr, e])

/-! ### struct and array literals; rows -/
/-- a value built, by the run of it -/
theorem y_bld {T : Nat} {parts : Array (Nat × Operand)} (r : Value) (vals : List (Nat × Value)) (hv : parts.toList.map (fun p => (evO kn p.2).map (p.1, ·)) = vals.map some)
    (hrun : ∀ w, (Instr.build T vals.toArray).run P w = .ok r w) : Y P n kn w ⟨some d, .build T parts, ty, pos, aft, g⟩ r := by
  intro a ha
  have hargs : (parts.map fun (i, x) => (i, a.eval x)) = vals.toArray := by
    apply Array.toList_inj.1
    rw [Array.toList_map]
    generalize parts.toList = az at hv
    simp only
    clear hrun
    induction az generalizing vals with
    | nil => cases vals with | nil => rfl | cons v vs => simp at hv
    | cons x xs ih =>
      cases vals with
      | nil => simp at hv
      | cons v vs =>
        simp only [List.map_cons, List.cons.injEq] at hv
        obtain ⟨h1, h2⟩ := hv
        cases hx : evO kn x.2 with
        | none => simp [hx] at h1
        | some u =>
          simp only [hx, Option.map_some, Option.some.injEq] at h1
          subst h1
          simp only [List.map_cons, ha.ev hx, ih vs h2]
  simp only [execOp, hargs, Sem.run_bind, hrun, Result.andThen_ok, Sem.run_pure]

/-- []T{x} -/
theorem e_bs1 (st : St w0 M hs w) {T E sz : Nat} {x : Operand} {v : Value} {l : List Value} (hw : gd L kn g = some true) (hd : okDst n (some d) = true) (hx : evO kn x = some v) (hl : v.cells.toList = l)
    (ht : P.underlying T = some (.slice E)) (hs1 : ∀ w, (Go.sizeOf E).run P w = .ok sz w) (hsz : l.length = sz) (h0 : Nat.blt 0 sz = true) (hbig : Nat.ble sz 16777216 = true) {z : Value} (hz : ∀ w, (zeroValue E).run P w = .ok z w)
    (next : ∀ b w', w0.heap.size ≤ b → St w0 M (.blk b (.cells l.toArray E (0, 0)) :: hs) w' → vN n N ((d, .slice (some ⟨b, 0, none⟩) 1 1) :: kn) w') :
    vS P n L Q ⟨some d, .buildSlice T 1 #[(0, x)], ty, pos, aft, g⟩ N kn w := by
  refine e_new st (v := .slice (some ⟨w.heap.size, 0, none⟩) 1 1) (l := l) (E := E) hw hd (fun a ha => ?_) (fun b w' e hb st' => by subst e; exact next _ w' hb st')
  have hc : v.cells = l.toArray := by rw [← hl]
  have hcs : v.cells.size = sz := by rw [hc]; simpa using hsz
  have h0' : ¬ sz = 0 := by
    have : 0 < sz := by simpa [Nat.blt_eq] using h0
    omega
  have hbig' : ¬ sz > 2 ^ 24 := by
    have : sz ≤ 16777216 := by simpa [Nat.ble_eq] using hbig
    omega
  have hfill : ∀ init : Array Value, init.size = sz → Instr.fill (fun i => some (i * sz, sz)) init [(0, v)] = some l.toArray := by
    intro init hi
    simp only [Instr.fill, hcs, Nat.zero_mul, Nat.zero_add, hi, ne_eq, not_true_eq_false, decide_false, gt_iff_lt, Nat.lt_irrefl, Bool.or_self, Bool.false_eq_true, ↓reduceIte, Option.some.injEq]
    rw [hc]
    have key : ∀ (m : List Value) (i : Nat) (ini : Array Value), i + m.length = ini.size →
        (m.zipIdx i).foldl (fun cs (p : Value × Nat) => cs.setIfInBounds p.2 p.1) ini = (ini.toList.take i ++ m).toArray := by
      intro m
      induction m with
      | nil => intro i ini h; simp at h; simp; rw [List.take_of_length_le (by simp; omega)]
      | cons y ys ih =>
        intro i ini h
        simp only [List.length_cons] at h
        simp only [List.zipIdx_cons, List.foldl_cons]
        rw [ih (i + 1) _ (by simp; omega)]
        congr 1
        rw [Array.toList_setIfInBounds, List.take_succ_eq_append_getElem (by simp; omega)]
        simp [List.take_set_of_le]
    have h2 := key l 0 init (by simpa [hi] using hsz)
    have h3 : l.toArray.zipIdx.foldl (fun cs (p : Value × Nat) => cs.setIfInBounds p.2 p.1) init = (l.zipIdx 0).foldl (fun cs (p : Value × Nat) => cs.setIfInBounds p.2 p.1) init := by
      rw [← Array.foldl_toList]
      simp
    simpa [h3] using h2
  simp only [execOp]
  have hm : (#[(0, x)].map fun (p : Nat × Operand) => (p.1, a.eval p.2)) = #[(0, v)] := by simp [ha.ev hx]
  rw [hm]
  simp only [Instr.buildSlice, Sem.run_bind, run_underlying ht, Result.andThen_ok, hs1, Nat.one_mul]
  simp [h0', hz, hfill, newRow, newObj, Sem.run]
  omega
end
end Sx


/- The engine, third part: calls, the code's forms, loops, returns. -/
namespace Sx
open Go Go.RowKit

/-- the call returns, and 'Φ' holds of what it returns and of the memory behind it -/
def Ret (P : Program) (f : FuncId) (vals : List Value) (w : World) (Φ : Value → World → Prop) : Prop :=
  Calls P f vals.toArray w fun e w' => ∃ v, e = .returned v ∧ Φ v w'

theorem Ret.mono {P : Program} {f : FuncId} {vals : List Value} {w : World} {Φ Ψ : Value → World → Prop} (h : Ret P f vals w Φ) (hm : ∀ v w', Φ v w' → Ψ v w') : Ret P f vals w Ψ :=
  Calls.mono h fun e w' ⟨v, he, hv⟩ => ⟨v, he, hm v w' hv⟩

section
variable {P : Program} {n : Fr} {L : List Oper} {Q : Exit → Act → World → Prop} {kn : Kn} {w w0 : World} {M : List Nat} {hs : List Res} {rest : List Oper}
variable {d ty : Nat} {pos : String} {aft : Array Edge} {g : Option (Nat × Bool)}

variable {N : Act → World → Prop}
theorem e_call' {o : Oper} {f : FuncId} {vals : List Value} {Φ : Value → World → Prop} (hw : gd L kn o.guard = some true) (hd : okDst n o.dst = true)
    (hrun : ∀ a, K n kn a → (execOp a.eval o).run P w = .ok (.enter f vals.toArray) w)
    (c : Ret P f vals w Φ) (next : ∀ v w', Φ v w' → vN n N (put o.dst v kn) w') : vS P n L Q o N kn w := by
  intro a ha
  rw [if_pos (ha.gd hw)]
  refine .inl ?_
  unfold Oper.wp
  rw [hrun a ha]
  refine Calls.mono c ?_
  rintro e w' ⟨v, rfl, hv⟩
  exact next v w' hv _ (ha.put hd v)

theorem e_call {f : FuncId} {args : Array Operand} {tys : Array TypeId} (vals : List Value) {Φ : Value → World → Prop} (hw : gd L kn g = some true) (hd : okDst n (some d) = true)
    (hcall : ∀ (az : Array Value) w, (callFunc f az).run P w = .ok (.enter f az) w)
    (hv : args.toList.map (evO kn) = vals.map some)
    (c : Ret P f vals w Φ) (next : ∀ v w', Φ v w' → vN n N ((d, v) :: kn) w') :
    vS P n L Q ⟨some d, .call ⟨.value (.func f), args, tys⟩, ty, pos, aft, g⟩ N kn w :=
  e_call' (f := f) (vals := vals) hw hd (fun a ha => by
    have hargs := evs_map ha hv
    simp only [execOp, resolve, hargs, Act.eval]
    simp [Deferred.ofValue, invoke, hcall]) c next

/-- a call through a function's value -/
theorem e_callv {f : FuncId} {x : Operand} {first captured : List Value} {args : Array Operand} {tys : Array TypeId} (vals : List Value) {Φ : Value → World → Prop} (hw : gd L kn g = some true) (hd : okDst n (some d) = true)
    (hx : evO kn x = some (.func (.func f) first.toArray captured.toArray))
    (hcall : ∀ (az : Array Value) w, (callFunc f az).run P w = .ok (.enter f az) w)
    (hv : args.toList.map (evO kn) = vals.map some)
    (c : Ret P f (first ++ vals ++ captured) w Φ) (next : ∀ v w', Φ v w' → vN n N ((d, v) :: kn) w') :
    vS P n L Q ⟨some d, .call ⟨.value x, args, tys⟩, ty, pos, aft, g⟩ N kn w :=
  e_call' (f := f) (vals := first ++ vals ++ captured) hw hd (fun a ha => by
    have hargs := evs_map ha hv
    simp only [execOp, resolve, hargs, ha.ev hx]
    simp [Deferred.ofValue, invoke, hcall]) c next

/-! ### the code's forms -/
theorem vc_seq {x y : Code} (h : vcC P n x (Exit.then (y.wp P Q) Q) kn w) : vcC P n (.seq x y) Q kn w := fun a ha => wp_seq (h a ha)
theorem vc_region {id : Nat} {L : List Oper} (h : vcL P n L Q L kn w) : vcC P n (.region id L.toArray false) Q kn w := fun a ha => wp_region_lit (h a ha)
theorem vc_end (h : vcQ n Q .normal kn w) : vcL P n L Q [] kn w := fun a ha => h a ha
theorem vc_code_skip (h : vcQ n Q .normal kn w) : vcC P n .skip Q kn w := fun a ha => wp_skip (h a ha)
theorem vc_exit {i : Nat} (h : vcQ n Q (.exit i) kn w) : vcC P n (.exit i) Q kn w := fun a ha => wp_exit (h a ha)
theorem vc_ret (h : vcQ n Q .ret kn w) : vcC P n .ret Q kn w := fun a ha => wp_ret (h a ha)
theorem vc_block {i : Nat} {c : Code} (h : vcC P n c (Exit.inBlock i Q) kn w) : vcC P n (.block i c) Q kn w := fun a ha => wp_block (h a ha)
theorem vc_ift {c : Operand} {x y : Code} (hc : evO kn c = some (.bool true)) (h1 : vcC P n x Q kn w) : vcC P n (.cond c x y) Q kn w :=
  fun a ha => wp_cond_true (ha.ev hc) (h1 a ha)
theorem vc_iff {c : Operand} {x y : Code} (hc : evO kn c = some (.bool false)) (h1 : vcC P n y Q kn w) : vcC P n (.cond c x y) Q kn w :=
  fun a ha => wp_cond_false (ha.ev hc) (h1 a ha)
/-- parted at a temporary: which way was taken is known of it -/
theorem vc_ifs {t : Nat} {x y : Code} {b : Bool} (hc : find kn t = some (.bool b)) (h1 : b = true → vcC P n x Q ((t, .bool true) :: kn) w) (h2 : b = false → vcC P n y Q ((t, .bool false) :: kn) w) : vcC P n (.cond (.tmp t) x y) Q kn w := by
  intro a ha
  have hk : ∀ c : Bool, b = c → K n ((t, .bool c) :: kn) a := fun c e => ⟨ha.defers, ha.size, fun u v hu => by
    simp only [find] at hu
    split at hu
    · rename_i he
      obtain rfl : t = u := Nat.eq_of_beq_eq_true he
      rw [← hu, ← e]; exact ha.get _ _ hc
    · exact ha.get u v hu⟩
  refine wp_cond (ha.ev (x := .tmp t) hc) ?_
  cases b
  · exact h2 rfl a (hk false rfl)
  · exact h1 rfl a (hk true rfl)
/-- what is known no longer is dropped -/
theorem vc_keep {c : Code} (kn' : Kn) (hs : Sub kn' kn) (h : vcC P n c Q kn' w) : vcC P n c Q kn w := fun a ha => h a (ha.sub hs)
theorem vq_then {c : Code} (h : vcC P n c Q kn w) : vcQ n (Exit.then (c.wp P Q) Q) .normal kn w := h
theorem vq_then_exit {K' : Act → World → Prop} {i : Nat} (h : vcQ n Q (.exit i) kn w) : vcQ n (Exit.then K' Q) (.exit i) kn w := h
theorem vq_then_ret {K' : Act → World → Prop} (h : vcQ n Q .ret kn w) : vcQ n (Exit.then K' Q) .ret kn w := h
theorem vq_block {i : Nat} (h : vcQ n Q .normal kn w) : vcQ n (Exit.inBlock i Q) .normal kn w := h
theorem vq_block_ret {i : Nat} (h : vcQ n Q .ret kn w) : vcQ n (Exit.inBlock i Q) .ret kn w := h
theorem vq_block_exit {i : Nat} (h : vcQ n Q .normal kn w) : vcQ n (Exit.inBlock i Q) (.exit i) kn w := fun a ha => by
  show (if i = i then Q .normal a w else Q (.exit i) a w)
  rw [if_pos rfl]; exact h a ha
theorem vq_block_other {i j : Nat} (hne : Nat.beq j i = false) (h : vcQ n Q (.exit j) kn w) : vcQ n (Exit.inBlock i Q) (.exit j) kn w := fun a ha => by
  show (if j = i then Q .normal a w else Q (.exit j) a w)
  rw [if_neg (by intro e; subst e; simp at hne)]; exact h a ha

/-! ### loops -/
def Again {α : Type} (n : Fr) (w0 : World) (M : List Nat) (f : α → Kn) (g : α → List Res) (φ : α → World → Prop) (μ : α → Nat) (x : α) (a : Act) (w : World) : Prop :=
  ∃ y, μ y < μ x ∧ φ y w ∧ St w0 M (g y) w ∧ K n (f y) a

theorem vc_loop {α : Type} {c : Code} (f : α → Kn) (g : α → List Res) (φ : α → World → Prop) (μ : α → Nat) (x : α) (hk : Sub (f x) kn) (st : St w0 M (g x) w) (h0 : φ x w)
    (round : ∀ x w, φ x w → St w0 M (g x) w → vcC P n c (Exit.then (Again n w0 M f g φ μ x) Q) (f x) w) : vcC P n (.loop c) Q kn w := by
  intro a ha
  refine Go.wp_loop_ghost (fun k a w => ∃ y, μ y = k ∧ φ y w ∧ St w0 M (g y) w ∧ K n (f y) a) (μ x) ⟨x, rfl, h0, st, ha.sub hk⟩ ?_
  rintro k a w ⟨y, rfl, h1, h2, h3⟩
  refine Go.wp_mono (round y w h1 h2 a h3) ?_
  intro e a' w' hq
  cases e with
  | normal =>
    obtain ⟨z, hz, hz1, hz2, hz3⟩ := hq
    exact ⟨μ z, hz, z, rfl, hz1, hz2, hz3⟩
  | exit id => exact hq
  | goto l => exact hq
  | ret => exact hq
  | panic ch => exact hq
  | outgrown => exact hq

theorem vq_again {α : Type} {f : α → Kn} {g : α → List Res} {φ : α → World → Prop} {μ : α → Nat} {x : α} (y : α) (hk : Sub (f y) kn) (st : St w0 M (g y) w) (h0 : φ y w) (hμ : μ y < μ x) :
    vcQ n (Exit.then (Again n w0 M f g φ μ x) Q) .normal kn w := fun a ha => ⟨y, hμ, h0, st, ha.sub hk⟩

/-- ways that meet again -/
def Meet {α : Type} (n : Fr) (w0 : World) (M : List Nat) (f : α → Kn) (g : α → List Res) (φ : α → World → Prop) (a : Act) (w : World) : Prop :=
  ∃ y, φ y w ∧ St w0 M (g y) w ∧ K n (f y) a
theorem vc_cut {α : Type} {x y : Code} (f : α → Kn) (g : α → List Res) (φ : α → World → Prop) (h1 : vcC P n x (Exit.then (Meet n w0 M f g φ) Q) kn w)
    (h2 : ∀ z w, φ z w → St w0 M (g z) w → vcC P n y Q (f z) w) : vcC P n (.seq x y) Q kn w := by
  intro a ha
  refine wp_seq (Go.wp_mono (h1 a ha) ?_)
  intro e a' w' hq
  cases e with
  | normal =>
    obtain ⟨z, hz1, hz2, hz3⟩ := hq
    exact h2 z w' hz1 hz2 a' hz3
  | exit id => exact hq
  | goto l => exact hq
  | ret => exact hq
  | panic ch => exact hq
  | outgrown => exact hq
theorem vq_meet {α : Type} {f : α → Kn} {g : α → List Res} {φ : α → World → Prop} (y : α) (hk : Sub (f y) kn) (st : St w0 M (g y) w) (h0 : φ y w) :
    vcQ n (Exit.then (Meet n w0 M f g φ) Q) .normal kn w := fun a ha => ⟨y, h0, st, ha.sub hk⟩

/-! ### entering, returning -/
def enumKn : Nat → List Value → Kn
  | _, [] => []
  | i, v :: r => (i, v) :: enumKn (i + 1) r

theorem find_enumKn : ∀ (l : List Value) (i t : Nat) (v : Value), find (enumKn i l) t = some v → i ≤ t ∧ l[t - i]? = some v
  | [], i, t, v, h => by simp [enumKn, find] at h
  | x :: r, i, t, v, h => by
    simp only [enumKn, find] at h
    split at h
    · rename_i he
      obtain rfl : i = t := Nat.eq_of_beq_eq_true he
      simpa using h
    · obtain ⟨h1, h2⟩ := find_enumKn r (i + 1) t v h
      refine ⟨by omega, ?_⟩
      rw [show t - i = (t - (i + 1)) + 1 from by omega]
      simpa using h2

theorem vc_enter {m : Nat} {f : FuncId} {fn : Func} {c : Code} {vals : List Value} {R : Ending → World → Prop} (hf : P.funcs[f]? = some fn) (hb : fn.body = some c) (hn : fn.ntmps = m) (hle : Nat.ble vals.length m = true)
    (h : vcC P (m, []) c (bodyPost P fn R) (enumKn 0 vals) w) : Calls P f vals.toArray w R := by
  refine calls_of_wp hf hb (h _ ?_)
  have hle' : vals.length ≤ m := by simpa [Nat.ble_eq] using hle
  refine ⟨rfl, ?_, ?_⟩
  · simp only [Array.size_append, List.size_toArray, Array.size_replicate, hn]; omega
  · intro t v ht
    obtain ⟨h1, h2⟩ := find_enumKn vals 0 t v ht
    have hlt : t < vals.length := by
      simp only [Nat.sub_zero] at h2
      exact (List.getElem?_eq_some_iff.1 h2).1
    simp only [Nat.sub_zero] at h2
    rw [Array.getElem?_append_left (by simpa using hlt)]
    simpa using h2

theorem ret_of {m : Nat} {f : FuncId} {fn : Func} {c : Code} (vals : List Value) {Φ : Value → World → Prop} (hf : P.funcs[f]? = some fn) (hb : fn.body = some c) (hn : fn.ntmps = m) (hle : Nat.ble vals.length m = true)
    (h : vcC P (m, []) c (bodyPost P fn fun e w' => ∃ v, e = .returned v ∧ Φ v w') (enumKn 0 vals) w) : Ret P f vals w Φ := vc_enter hf hb hn hle h

inductive ResV (P : Program) (hs : List Res) (kn : Kn) : ResultVar → Value → Prop
  | tmp {t : Nat} {v : Value} (h : find kn t = some v) : ResV P hs kn (.tmp t) v
  | cell (i : Nat) {t T b E : Nat} {l : List Value} {fz : Nat × Nat} (h : find kn t = some (.pointer (some ⟨b, 0, none⟩))) (hi : nth hs i = some (.blk b (.cells l.toArray E fz)))
      (ha : ∀ w, (Go.isAgg T).run P w = .ok true w) (hsz : ∀ w, (Go.sizeOf T).run P w = .ok l.length w) : ResV P hs kn (.cell t T) (.agg l.toArray)
  | cell1 (i : Nat) {t T b E : Nat} {l : List Value} {v : Value} {fz : Nat × Nat} (h : find kn t = some (.pointer (some ⟨b, 0, none⟩))) (hi : nth hs i = some (.blk b (.cells l.toArray E fz)))
      (ha : ∀ w, (Go.isAgg T).run P w = .ok false w) (hv : nth l 0 = some v) : ResV P hs kn (.cell t T) v

def resOne (tmps : Array Value) : ResultVar → Sem Value
  | .tmp t => pure (tmps.getD t undef)
  | .cell a t => do loadVar t (← asAddr (tmps.getD a undef))

theorem ResV.run (st : St w0 M hs w) {a : Act} (ha : K n kn a) {r : ResultVar} {v : Value} (h : ResV P hs kn r v) : (resOne a.tmps r).run P w = .ok v w := by
  cases h with
  | tmp h => simp [resOne, ha.get _ _ h]
  | cell i h hi hag hsz =>
    rename_i t T b E l fz
    have hc := run_loadCells_list (P := P) (w := w) ⟨b, 0, none⟩ l (fun j v hj => by rw [addr_add]; exact cell_blk (st.res hi) (by rw [nth_eq]; simpa using hj))
    simp only [resOne, loadVar, Sem.run_bind]
    unfold loadCells at hc
    simp [ha.get _ _ h, asAddr, hag, hsz, loadCells, hc]
  | cell1 i h hi hag hv =>
    have hc := cell_blk (st.res hi) hv
    simp only [resOne, loadVar, Sem.run_bind]
    simp [ha.get _ _ h, asAddr, hag, load, Sem.run, hc]

theorem results_eq (fn : Func) (tmps : Array Value) : results fn tmps = (do
    let vs ← fn.results.mapM (resOne tmps)
    pure (if h : vs.size = 1 then vs[0] else .tuple vs)) := by
  unfold results
  congr 2

section
variable {fn : Func} {R : Ending → World → Prop} {r1 r2 r3 r4 : ResultVar} {v1 v2 v3 v4 : Value} {e : Exit}

theorem vq_post {m : Nat} {v : Value} (he : e = .ret ∨ e = .normal) (hr : ∀ a, K (m, []) kn a → (results fn a.tmps).run P w = .ok v w) (hR : R (.returned v) w) : vcQ (m, []) (bodyPost P fn R) e kn w := by
  intro a ha
  rcases he with rfl | rfl <;> exact ⟨ha.defers, v, hr a ha, hR⟩
theorem vq_ret0 {m : Nat} (he : e = .ret ∨ e = .normal) (hf : fn.results = #[]) (hR : R (.returned (.tuple #[])) w) : vcQ (m, []) (bodyPost P fn R) e kn w :=
  vq_post he (fun a ha => by simp [results_eq, hf]) hR
theorem vq_ret1 {m : Nat} (st : St w0 M hs w) (he : e = .ret ∨ e = .normal) (hf : fn.results = #[r1]) (h1 : ResV P hs kn r1 v1) (hR : R (.returned v1) w) : vcQ (m, []) (bodyPost P fn R) e kn w :=
  vq_post he (fun a ha => by simp [results_eq, hf, h1.run st ha]) hR
theorem vq_ret2 {m : Nat} (st : St w0 M hs w) (he : e = .ret ∨ e = .normal) (hf : fn.results = #[r1, r2]) (h1 : ResV P hs kn r1 v1) (h2 : ResV P hs kn r2 v2) (hR : R (.returned (.tuple #[v1, v2])) w) : vcQ (m, []) (bodyPost P fn R) e kn w :=
  vq_post he (fun a ha => by simp [results_eq, hf, h1.run st ha, h2.run st ha]) hR
theorem vq_ret3 {m : Nat} (st : St w0 M hs w) (he : e = .ret ∨ e = .normal) (hf : fn.results = #[r1, r2, r3]) (h1 : ResV P hs kn r1 v1) (h2 : ResV P hs kn r2 v2) (h3 : ResV P hs kn r3 v3) (hR : R (.returned (.tuple #[v1, v2, v3])) w) : vcQ (m, []) (bodyPost P fn R) e kn w :=
  vq_post he (fun a ha => by simp [results_eq, hf, h1.run st ha, h2.run st ha, h3.run st ha]) hR
end
end
end Sx


/- The engine, fourth part: a statement whose order is drawn. -/
namespace Sx
open Go Go.RowKit

/-- a panic's post does not look at the temporaries -/
def okQ (Q : Exit → Act → World → Prop) : Prop := ∀ c (a a' : Act) w, a.defers = a'.defers → Q (.panic c) a w → Q (.panic c) a' w
theorem okQ_then {K' : Act → World → Prop} {Q : Exit → Act → World → Prop} (h : okQ Q) : okQ (Exit.then K' Q) := h
theorem okQ_block {i : Nat} {Q : Exit → Act → World → Prop} (h : okQ Q) : okQ (Exit.inBlock i Q) := h
theorem okQ_body {P : Program} {fn : Func} {R : Ending → World → Prop} : okQ (bodyPost P fn R) := fun c a a' w h ⟨h1, h2⟩ => ⟨h ▸ h1, h2⟩

def planD (L : Array Oper) : List (Nat × Bool) → Array Bool → Bool
  | [], listed => (Region.ready .any L listed).isEmpty
  | (i, true) :: r, listed => (Region.ready .any L listed).contains i && Region.free .any L listed i && planD L r (listed.setIfInBounds i true)
  | (i, false) :: r, listed => (Region.ready .any L listed == [i]) && planD L r (listed.setIfInBounds i true)

section
variable {P : Program} {n : Fr} {L : List Oper} {Q : Exit → Act → World → Prop} {kn : Kn} {w : World} {S : World → Prop}

def vP (P : Program) (n : Fr) (L : List Oper) (Q : Exit → Act → World → Prop) (S : World → Prop) (plan : List (Nat × Bool)) (kn : Kn) (w : World) : Prop :=
  ∀ a listed, okQ Q → Region.noSelect L.toArray = true → K n kn a → planD L.toArray plan listed = true → wpAnyH P .any L.toArray Q S plan.length listed a w

def NP (P : Program) (L : List Oper) (Q : Exit → Act → World → Prop) (S : World → Prop) (plan : List (Nat × Bool)) (a : Act) (w : World) : Prop :=
  S w ∧ (okQ Q → Region.noSelect L.toArray = true → ∀ listed, planD L.toArray plan listed = true → wpAnyH P .any L.toArray Q S plan.length listed a w)

theorem vp_next {plan : List (Nat × Bool)} (hS : S w) (h : S w → vP P n L Q S plan kn w) : vN n (NP P L Q S plan) kn w := fun a ha => ⟨hS, fun hQ hsel listed hl => h hS a listed hQ hsel ha hl⟩

theorem vp_end (h : vcQ n Q .normal kn w) : vP P n L Q S [] kn w := fun a listed hQ hsel ha hl => by
  simp only [planD, List.isEmpty_iff] at hl
  exact ⟨hl, h a ha⟩

theorem put_defers (a : Act) (d : Option Nat) (v : Value) : (a.put d v).defers = a.defers := by cases d <;> rfl

theorem vp_take {i : Nat} {o : Oper} {v : Value} {r : List (Nat × Bool)} (hi : nth L i = some o) (hw : gd L kn o.guard = some true) (hd : okDst n o.dst = true)
    (hS : S w) (y : ∀ w', S w' → Y P n kn w' o v) (next : vP P n L Q S r (put o.dst v kn) w) : vP P n L Q S ((i, true) :: r) kn w := by
  intro a listed hQ hsel ha hl
  simp only [planD, Bool.and_eq_true] at hl
  rw [nth_eq] at hi
  exact wpAnyH_take (oi := o) (v := v) (by simpa using hi) hsel hl.1.2 hl.1.1 (fun c a w h => hQ c _ _ w (put_defers _ _ _) h)
    (.inl ⟨ha.gd hw, fun w' hS' => y w' hS' a ha⟩) hS (next _ _ hQ hsel (ha.put hd v) hl.2)

theorem vp_skip {i : Nat} {o : Oper} {r : List (Nat × Bool)} (hi : nth L i = some o) (hw : gd L kn o.guard = some false) (hd : okDst n o.dst = true)
    (hS : S w) (next : vP P n L Q S r (put o.dst undef kn) w) : vP P n L Q S ((i, true) :: r) kn w := by
  intro a listed hQ hsel ha hl
  simp only [planD, Bool.and_eq_true] at hl
  rw [nth_eq] at hi
  exact wpAnyH_take (oi := o) (v := undef) (by simpa using hi) hsel hl.1.2 hl.1.1 (fun c a w h => hQ c _ _ w (put_defers _ _ _) h)
    (.inr ⟨ha.gd hw, rfl⟩) hS (next _ _ hQ hsel (ha.put hd undef) hl.2)

/-- a bool on which later operations hang: parted -/
theorem vp_part {i d ty : Nat} {pos : String} {aft : Array Edge} {g : Option (Nat × Bool)} {x : Operand} {b : Bool} {r : List (Nat × Bool)} 
    (hi : nth L i = some ⟨some d, .move x, ty, pos, aft, g⟩) (hw : gd L kn g = some true) (hd : okDst n (some d) = true) (hS : S w) (hx : evO kn x = some (.bool b))
    (h1 : b = true → vP P n L Q S r ((d, .bool true) :: kn) w) (h2 : b = false → vP P n L Q S r ((d, .bool false) :: kn) w) : vP P n L Q S ((i, true) :: r) kn w := by
  refine vp_take hi hw hd hS (fun w' _ => y_mv hx) ?_
  cases b
  · exact h2 rfl
  · exact h1 rfl

theorem vp_do {i : Nat} {o : Oper} {r : List (Nat × Bool)} (hi : nth L i = some o) (e : vS P n L Q o (NP P L Q S r) kn w) : vP P n L Q S ((i, false) :: r) kn w := by
  intro a listed hQ hsel ha hl
  simp only [planD, Bool.and_eq_true, beq_iff_eq] at hl
  rw [nth_eq] at hi
  refine wpAnyH_all hl.1 (by simp) (fun j hj => ?_)
  obtain rfl : j = i := by simpa using hj
  have he := e a ha
  unfold wpOp
  simp only [List.getElem?_toArray, hi]
  split
  · rename_i hw
    rw [if_pos hw] at he
    exact he.imp (Oper.wp_mono (fun a' w' h => ⟨h.1, h.2 hQ hsel _ hl.2⟩)) id
  · rename_i hw
    rw [if_neg hw] at he
    exact ⟨he.1, he.2 hQ hsel _ hl.2⟩

theorem vc_draw {id : Nat} (hm : P.follows .mixedOrders = true) (plan : List (Nat × Bool)) (S : World → Prop) (hS0 : S w) (hsel : Region.noSelect L.toArray = true) (hQ : okQ Q) (hlen : plan.length = L.length) (hplan : planD L.toArray plan (Array.replicate L.length false) = true)
    (h : ∀ w', Chg [] w w' → vP P n L Q S plan kn w') : vcC P n (.region id L.toArray true) Q kn w := by
  intro a ha
  refine wp_region_held (S := S) hm ?_
  have := h w.drew (Chg.drew w) a (Array.replicate L.length false) hQ hsel ha hplan
  rw [hlen] at this
  rw [List.size_toArray]
  exact this
end
end Sx


/- The engine, twenty-second part: a statement whose order is drawn, with stores behind what is read: the condition is asked for only until the first store. -/
namespace Sx
open Go Go.RowKit

section
variable {P : Program} {md : Region.Mode} {ops : Array Oper} {Q : Exit → Act → World → Prop} {S : World → Prop} {s : Nat}
def wpAnyK (P : Program) (md : Region.Mode) (ops : Array Oper) (Q : Exit → Act → World → Prop) (s : Nat) (S : World → Prop) : Nat → Array Bool → Act → World → Prop
  | 0, listed, a, w => Region.ready md ops listed = [] ∧ Q .normal a w
  | fuel + 1, listed, a, w => (Region.ready md ops listed = [] → Q .normal a w) ∧
    ∀ i ∈ Region.ready md ops listed, wpOp P ops Q i (fun a' w' => ((listed.setIfInBounds i true).getD s false = false → S w') ∧ wpAnyK P md ops Q s S fuel (listed.setIfInBounds i true) a' w') a w
theorem wpAny_of_K : ∀ (fuel : Nat) (listed : Array Bool) (a : Act) (w : World), wpAnyK P md ops Q s S fuel listed a w → wpAny P md ops Q fuel listed a w
  | 0, _, _, _, h => h
  | fuel + 1, _, _, _, h => ⟨h.1, fun i hi => wpOp_mono (fun a' w' h' => wpAny_of_K fuel _ a' w' h'.2) (h.2 i hi)⟩
theorem getD_set_self {l : Array Bool} {i s : Nat} (h : i ≠ s) : (l.setIfInBounds i true).getD s false = l.getD s false := getD_set_ne false h
/-- what has come up has waited for all that it waits for -/
def DownL (md : Region.Mode) (ops : Array Oper) (listed : Array Bool) : Prop := ∀ j oj, ops[j]? = some oj → listed.getD j false = true → ∀ e ∈ oj.after, Region.binds md e = true → listed.getD e.on false = true
theorem DownL.set {listed : Array Bool} (h : DownL md ops listed) {j : Nat} (hj : j ∈ Region.ready md ops listed) : DownL md ops (listed.setIfInBounds j true) := by
  intro k ok hk hl e he hb
  have mono : ∀ m, listed.getD m false = true → (listed.setIfInBounds j true).getD m false = true := fun m hm => by
    by_cases hmj : j = m
    · subst hmj
      have : j < listed.size := by
        rcases Nat.lt_or_ge j listed.size with h | h
        · exact h
        · simp [Array.getElem?_eq_none h] at hm
      simp [this]
    · rw [getD_set_ne false hmj]; exact hm
  refine mono _ ?_
  by_cases hkj : j = k
  · subst hkj
    obtain ⟨-, oj, hoj, hall⟩ := mem_ready.1 hj
    rw [hk] at hoj
    cases hoj
    exact by simpa using hall e he hb
  · rw [getD_set_ne false hkj] at hl
    exact h k ok hk hl e he hb
theorem DownL.none (n : Nat) : DownL md ops (Array.replicate n false) := by
  intro j oj _ hl
  rcases Nat.lt_or_ge j n with h | h <;> simp [h] at hl
/-- an operation that yields the same in every world -/
theorem wpAnyK_firstU {i : Nat} {oi : Oper} {v : Value} (hi : ops[i]? = some oi) (hsel : ∀ (j : Nat) (o : Oper) cs b, ops[j]? = some o → o.op ≠ .select cs b)
    (hQ : ∀ c a w, Q (.panic c) (a.put oi.dst v) w → Q (.panic c) a w) (his : i ≠ s) :
    ∀ (fuel : Nat) (listed : Array Bool) (a : Act) (w : World),
      (∀ j oj, ops[j]? = some oj → j ≠ i → listed.getD j true = false → (∀ e ∈ oj.after, Region.binds md e = true → e.on ≠ i) → oi.apart ops oj = true) →
      i ∈ Region.ready md ops listed → YieldsIf P ops (fun _ => True) oi v a → (listed.getD s false = false → S w) →
      wpAnyK P md ops Q s S fuel (listed.setIfInBounds i true) (a.put oi.dst v) w → wpAnyK P md ops Q s S (fuel + 1) listed a w := by
  intro fuel
  induction fuel with
  | zero =>
    intro listed a w _ hr hy hS H
    refine ⟨fun h => (by rw [h] at hr; cases hr), fun j hj => ?_⟩
    by_cases hji : j = i
    · subst hji; exact hy.wpOp hi trivial ⟨fun h => hS (by rwa [getD_set_self his] at h), H⟩
    · have := ready_mono hj hji
      rw [H.1] at this
      cases this
  | succ fuel ih =>
    intro listed a w hfree hr hy hS H
    refine ⟨fun h => (by rw [h] at hr; cases hr), fun j hj => ?_⟩
    by_cases hji : j = i
    · subst hji; exact hy.wpOp hi trivial ⟨fun h => hS (by rwa [getD_set_self his] at h), H⟩
    · have h1 := H.2 j (ready_mono hj hji)
      obtain ⟨hjun, oj, hoj, hall⟩ := mem_ready.1 hj
      have hnot : ∀ e ∈ oj.after, Region.binds md e = true → e.on ≠ i := fun e he hb heq => by
        have h1 := hall e he hb
        have h0 := (mem_ready.1 hr).1
        rw [heq] at h1
        rcases Nat.lt_or_ge i listed.size with h' | h'
        · simp [h'] at h0 h1; rw [h0] at h1; cases h1
        · simp [Array.getElem?_eq_none h'] at h1
      have h2 := wpOp_putIf hoj (hfree j oj hoj hji hjun hnot) (fun cs b => hsel i oi cs b hi) (fun cs b => hsel j oj cs b hoj) hQ hy h1
      have hfree' : ∀ k ok, ops[k]? = some ok → k ≠ i → (listed.setIfInBounds j true).getD k true = false →
          (∀ e ∈ ok.after, Region.binds md e = true → e.on ≠ i) → oi.apart ops ok = true := fun k ok hk hki hun hno => by
        refine hfree k ok hk hki ?_ hno
        by_cases hjk : j = k
        · subst hjk; exact hjun
        · rw [getD_set_ne true hjk] at hun; exact hun
      have hcom : ∀ (h : (listed.setIfInBounds j true).getD s false = false), ((listed.setIfInBounds i true).setIfInBounds j true).getD s false = false := fun h => by
        rw [Array.setIfInBounds_comm _ _ (Ne.symm hji), getD_set_self his]; exact h
      refine wpOp_mono (fun a' w' h3 => ⟨fun h => h3.2.1 (hcom h), ih (listed.setIfInBounds j true) a' w' hfree' (ready_mono hr (Ne.symm hji)) h3.1 (fun h => h3.2.1 (hcom h)) ?_⟩) h2
      rw [Array.setIfInBounds_comm _ _ hji]
      exact h3.2.2
theorem wpAnyK_first {i : Nat} {oi : Oper} {v : Value} (hi : ops[i]? = some oi) (hsel : ∀ (j : Nat) (o : Oper) cs b, ops[j]? = some o → o.op ≠ .select cs b)
    (hQ : ∀ c a w, Q (.panic c) (a.put oi.dst v) w → Q (.panic c) a w) (his : i ≠ s) (hwait : ∀ os, ops[s]? = some os → ∃ e ∈ os.after, Region.binds md e = true ∧ (e.on = i ∨ ∃ om, ops[e.on]? = some om ∧ ∃ e' ∈ om.after, Region.binds md e' = true ∧ e'.on = i)) :
    ∀ (fuel : Nat) (listed : Array Bool) (a : Act) (w : World),
      (∀ j oj, ops[j]? = some oj → j ≠ i → listed.getD j true = false → (∀ e ∈ oj.after, Region.binds md e = true → e.on ≠ i) → oi.apart ops oj = true) →
      i ∈ Region.ready md ops listed → DownL md ops listed → listed.getD s false = false → YieldsIf P ops S oi v a → S w →
      wpAnyK P md ops Q s S fuel (listed.setIfInBounds i true) (a.put oi.dst v) w → wpAnyK P md ops Q s S (fuel + 1) listed a w := by
  intro fuel
  induction fuel with
  | zero =>
    intro listed a w _ hr hdn hl hy hS H
    refine ⟨fun h => (by rw [h] at hr; cases hr), fun j hj => ?_⟩
    by_cases hji : j = i
    · subst hji; exact hy.wpOp hi hS ⟨fun _ => hS, H⟩
    · have := ready_mono hj hji
      rw [H.1] at this
      cases this
  | succ fuel ih =>
    intro listed a w hfree hr hdn hl hy hS H
    refine ⟨fun h => (by rw [h] at hr; cases hr), fun j hj => ?_⟩
    by_cases hji : j = i
    · subst hji; exact hy.wpOp hi hS ⟨fun _ => hS, H⟩
    · have h1 := H.2 j (ready_mono hj hji)
      obtain ⟨hjun, oj, hoj, hall⟩ := mem_ready.1 hj
      have hun : ∀ e : Edge, e.on = i → ¬ (listed.getD e.on false = true) := fun e heq h1 => by
        have h0 := (mem_ready.1 hr).1
        rw [heq] at h1
        rcases Nat.lt_or_ge i listed.size with h' | h'
        · simp [h'] at h0 h1; rw [h0] at h1; cases h1
        · simp [Array.getElem?_eq_none h'] at h1
      have hnot : ∀ e ∈ oj.after, Region.binds md e = true → e.on ≠ i := fun e he hb heq => hun e heq (by simpa using hall e he hb)
      have hjs : j ≠ s := by
        rintro rfl
        obtain ⟨e, he, hb, heq | ⟨om, hom, e', he', hb', heq⟩⟩ := hwait oj hoj
        · exact hnot e he hb heq
        · exact hun e' heq (hdn _ om hom (by simpa using hall e he hb) e' he' hb')
      have h2 := wpOp_putIf hoj (hfree j oj hoj hji hjun hnot) (fun cs b => hsel i oi cs b hi) (fun cs b => hsel j oj cs b hoj) hQ hy h1
      have hfree' : ∀ k ok, ops[k]? = some ok → k ≠ i → (listed.setIfInBounds j true).getD k true = false →
          (∀ e ∈ ok.after, Region.binds md e = true → e.on ≠ i) → oi.apart ops ok = true := fun k ok hk hki hun hno => by
        refine hfree k ok hk hki ?_ hno
        by_cases hjk : j = k
        · subst hjk; exact hjun
        · rw [getD_set_ne true hjk] at hun; exact hun
      have hl1 : (listed.setIfInBounds j true).getD s false = false := by rw [getD_set_self hjs]; exact hl
      have hl2 : ((listed.setIfInBounds i true).setIfInBounds j true).getD s false = false := by rw [getD_set_self hjs, getD_set_self his]; exact hl
      refine wpOp_mono (fun a' w' h3 => ⟨fun _ => h3.2.1 hl2, ih (listed.setIfInBounds j true) a' w' hfree' (ready_mono hr (Ne.symm hji)) (hdn.set hj) hl1 h3.1 (h3.2.1 hl2) ?_⟩) h2
      rw [Array.setIfInBounds_comm _ _ hji]
      exact h3.2.2
end

def waitsB (L : Array Oper) (s i : Nat) : Bool := !(Nat.beq i s) && (match L[s]? with | some o => o.after.toList.any (fun e => Region.binds .any e && (Nat.beq e.on i || (match L[e.on]? with | some m => m.after.toList.any (fun e' => Region.binds .any e' && Nat.beq e'.on i) | none => false))) | none => true)
section
variable {P : Program} {n : Fr} {L : List Oper} {Q : Exit → Act → World → Prop} {kn : Kn} {w : World} {S : World → Prop} {s : Nat} {late : Bool}
def vK (P : Program) (n : Fr) (L : List Oper) (Q : Exit → Act → World → Prop) (s : Nat) (S : World → Prop) (late : Bool) (plan : List (Nat × Bool)) (kn : Kn) (w : World) : Prop :=
  ∀ a listed, okQ Q → Region.noSelect L.toArray = true → K n kn a → planD L.toArray plan listed = true → listed.getD s false = late → listed.size = L.length → DownL .any L.toArray listed → wpAnyK P .any L.toArray Q s S plan.length listed a w
def NK (P : Program) (L : List Oper) (Q : Exit → Act → World → Prop) (s : Nat) (S : World → Prop) (late : Bool) (plan : List (Nat × Bool)) (a : Act) (w : World) : Prop :=
  (late = false → S w) ∧ (okQ Q → Region.noSelect L.toArray = true → ∀ listed, planD L.toArray plan listed = true → listed.getD s false = late → listed.size = L.length → DownL .any L.toArray listed → wpAnyK P .any L.toArray Q s S plan.length listed a w)
theorem vk_next {plan : List (Nat × Bool)} (hS : S w) (h : S w → vK P n L Q s S false plan kn w) : vN n (NK P L Q s S false plan) kn w := fun a ha => ⟨fun _ => hS, fun hQ hsel listed hl hs hz hdn => h hS a listed hQ hsel ha hl hs hz hdn⟩
theorem vk_late {plan : List (Nat × Bool)} (h : vK P n L Q s S true plan kn w) : vN n (NK P L Q s S true plan) kn w := fun a ha => ⟨(fun h => by cases h), fun hQ hsel listed hl hs hz hdn => h a listed hQ hsel ha hl hs hz hdn⟩
theorem vk_end (h : vcQ n Q .normal kn w) : vK P n L Q s S late [] kn w := fun a listed hQ hsel ha hl hs hz hdn => by
  simp only [planD, List.isEmpty_iff] at hl
  exact ⟨hl, h a ha⟩
theorem waits_spec {ops : Array Oper} {s i : Nat} (h : waitsB ops s i = true) : i ≠ s ∧ ∀ os, ops[s]? = some os → ∃ e ∈ os.after, Region.binds .any e = true ∧ (e.on = i ∨ ∃ om, ops[e.on]? = some om ∧ ∃ e' ∈ om.after, Region.binds .any e' = true ∧ e'.on = i) := by
  unfold waitsB at h
  simp only [Bool.and_eq_true, Bool.not_eq_true'] at h
  refine ⟨(fun e => by subst e; simp at h), fun os hos => ?_⟩
  rw [hos] at h
  obtain ⟨e, he, h2⟩ := List.any_eq_true.1 h.2
  simp only [Bool.and_eq_true] at h2
  simp only [Bool.or_eq_true] at h2
  refine ⟨e, by simpa using he, h2.1, ?_⟩
  rcases h2.2 with h3 | h3
  · exact .inl (Nat.eq_of_beq_eq_true h3)
  · right
    cases hm : ops[e.on]? with
    | none => rw [hm] at h3; cases h3
    | some om =>
      rw [hm] at h3
      obtain ⟨e', he', h4⟩ := List.any_eq_true.1 h3
      simp only [Bool.and_eq_true] at h4
      exact ⟨om, rfl, e', by simpa using he', h4.1, Nat.eq_of_beq_eq_true h4.2⟩
theorem vk_take {i : Nat} {o : Oper} {v : Value} {r : List (Nat × Bool)} (hi : nth L i = some o) (hw : gd L kn o.guard = some true) (hd : okDst n o.dst = true) (hwt : waitsB L.toArray s i = true)
    (hS : S w) (y : ∀ w', S w' → Y P n kn w' o v) (next : vK P n L Q s S false r (put o.dst v kn) w) : vK P n L Q s S false ((i, true) :: r) kn w := by
  intro a listed hQ hsel ha hl hs hz hdn
  simp only [planD, Bool.and_eq_true] at hl
  rw [nth_eq] at hi
  obtain ⟨h1, h2⟩ := waits_spec hwt
  exact wpAnyK_first (oi := o) (v := v) (by simpa using hi) (Region.noSelect_spec hsel) (fun c a w h => hQ c _ _ w (put_defers _ _ _) h) h1 h2 _ listed a w (Region.free_spec (by simpa using hi) hl.1.2) (by simpa using hl.1.1) hdn hs
    (.inl ⟨ha.gd hw, fun w' hS' => y w' hS' a ha⟩) hS (next _ _ hQ hsel (ha.put hd v) hl.2 (by rw [getD_set_self h1]; exact hs) (by simpa using hz) (hdn.set (by simpa using hl.1.1)))
theorem vk_takeU {i : Nat} {o : Oper} {v : Value} {r : List (Nat × Bool)} (hi : nth L i = some o) (hw : gd L kn o.guard = some true) (hd : okDst n o.dst = true) (his : Nat.beq i s = false)
    (hS : late = false → S w) (y : ∀ w', Y P n kn w' o v) (next : vK P n L Q s S late r (put o.dst v kn) w) : vK P n L Q s S late ((i, true) :: r) kn w := by
  intro a listed hQ hsel ha hl hs hz hdn
  simp only [planD, Bool.and_eq_true] at hl
  rw [nth_eq] at hi
  have h1 : i ≠ s := fun e => by subst e; simp at his
  exact wpAnyK_firstU (oi := o) (v := v) (by simpa using hi) (Region.noSelect_spec hsel) (fun c a w h => hQ c _ _ w (put_defers _ _ _) h) h1 _ listed a w (Region.free_spec (by simpa using hi) hl.1.2) (by simpa using hl.1.1)
    (.inl ⟨ha.gd hw, fun w' _ => y w' a ha⟩) (fun h => hS (by rw [← hs]; exact h)) (next _ _ hQ hsel (ha.put hd v) hl.2 (by rw [getD_set_self h1]; exact hs) (by simpa using hz) (hdn.set (by simpa using hl.1.1)))
theorem vk_do {i : Nat} {o : Oper} {r : List (Nat × Bool)} (hi : nth L i = some o) (hlt : Nat.blt i L.length = true) (e : vS P n L Q o (NK P L Q s S (late || Nat.beq i s) r) kn w) : vK P n L Q s S late ((i, false) :: r) kn w := by
  intro a listed hQ hsel ha hl hs hz hdn
  simp only [planD, Bool.and_eq_true, beq_iff_eq] at hl
  rw [nth_eq] at hi
  refine ⟨(fun h => by rw [hl.1] at h; cases h), fun j hj => ?_⟩
  rw [hl.1] at hj
  obtain rfl : j = i := by simpa using hj
  have hlate : (listed.setIfInBounds j true).getD s false = (late || Nat.beq j s) := by
    by_cases hjs : j = s
    · subst hjs
      have : j < listed.size := by rw [hz]; simpa [Nat.blt_eq] using hlt
      simp [this]
    · rw [getD_set_self hjs, hs]
      cases h : Nat.beq j s
      · simp
      · exact absurd (Nat.eq_of_beq_eq_true h) hjs
  have he := e a ha
  unfold wpOp
  simp only [List.getElem?_toArray, hi]
  split
  · rename_i hw
    rw [if_pos hw] at he
    exact he.imp (Oper.wp_mono (fun a' w' h => ⟨fun h2 => h.1 (by rw [← hlate]; exact h2), h.2 hQ hsel _ hl.2 hlate (by simpa using hz) (hdn.set (by rw [hl.1]; simp))⟩)) id
  · rename_i hw
    rw [if_neg hw] at he
    exact ⟨fun h2 => he.1 (by rw [← hlate]; exact h2), he.2 hQ hsel _ hl.2 hlate (by simpa using hz) (hdn.set (by rw [hl.1]; simp))⟩
theorem vk_draw {id : Nat} (hm : P.follows .mixedOrders = true) (plan : List (Nat × Bool)) (s : Nat) (S : World → Prop) (hS0 : S w) (hsel : Region.noSelect L.toArray = true) (hQ : okQ Q) (hlen : plan.length = L.length) (hplan : planD L.toArray plan (Array.replicate L.length false) = true) (hs : Nat.blt s L.length = true)
    (h : ∀ w', Chg [] w w' → vK P n L Q s S false plan kn w') : vcC P n (.region id L.toArray true) Q kn w := by
  intro a ha
  refine wp_region_any hm (wpAny_of_K (s := s) (S := S) _ _ _ _ ?_)
  have hs' : s < L.length := by simpa [Nat.blt_eq] using hs
  have := h w.drew (Chg.drew w) a (Array.replicate L.length false) hQ hsel ha hplan (by simp [hs']) (by simp) (DownL.none _)
  rw [hlen] at this
  rw [List.size_toArray]
  exact this
end
end Sx


/- The engine, eighth part: a statement whose order is drawn, two operations at a time. -/
namespace Sx
open Go Go.RowKit

inductive Pl where
  | done
  | take (i : Nat) (r : Pl)
  | one (i : Nat) (r : Pl)
  | two (i j : Nat) (r s : Pl)

def Pl.len : Pl → Nat
  | .done => 0
  | .take _ r => r.len + 1
  | .one _ r => r.len + 1
  | .two _ _ r _ => r.len + 1

def plOK (L : Array Oper) : Pl → Array Bool → Bool
  | .done, listed => (Region.ready .any L listed).isEmpty
  | .take i r, listed => (Region.ready .any L listed).contains i && Region.free .any L listed i && plOK L r (listed.setIfInBounds i true)
  | .one i r, listed => (Region.ready .any L listed == [i]) && plOK L r (listed.setIfInBounds i true)
  | .two i j r s, listed => (Region.ready .any L listed == [i, j]) && (r.len == s.len) && plOK L r (listed.setIfInBounds i true) && plOK L s (listed.setIfInBounds j true)

section
variable {P : Program} {n : Fr} {L : List Oper} {Q : Exit → Act → World → Prop} {kn : Kn} {w : World} {S : World → Prop}

def vD (P : Program) (n : Fr) (L : List Oper) (Q : Exit → Act → World → Prop) (S : World → Prop) (plan : Pl) (kn : Kn) (w : World) : Prop :=
  ∀ a listed, okQ Q → Region.noSelect L.toArray = true → K n kn a → plOK L.toArray plan listed = true → wpAnyH P .any L.toArray Q S plan.len listed a w

def ND (P : Program) (L : List Oper) (Q : Exit → Act → World → Prop) (S : World → Prop) (plan : Pl) (a : Act) (w : World) : Prop :=
  S w ∧ (okQ Q → Region.noSelect L.toArray = true → ∀ listed, plOK L.toArray plan listed = true → wpAnyH P .any L.toArray Q S plan.len listed a w)

theorem vd_next {plan : Pl} (hS : S w) (h : S w → vD P n L Q S plan kn w) : vN n (ND P L Q S plan) kn w := fun a ha => ⟨hS, fun hQ hsel listed hl => h hS a listed hQ hsel ha hl⟩

theorem vd_end (h : vcQ n Q .normal kn w) : vD P n L Q S .done kn w := fun a listed hQ hsel ha hl => by
  simp only [plOK, List.isEmpty_iff] at hl
  exact ⟨hl, h a ha⟩

theorem vd_take {i : Nat} {o : Oper} {v : Value} {r : Pl} (hi : nth L i = some o) (hw : gd L kn o.guard = some true) (hd : okDst n o.dst = true)
    (hS : S w) (y : ∀ w', S w' → Y P n kn w' o v) (next : vD P n L Q S r (put o.dst v kn) w) : vD P n L Q S (.take i r) kn w := by
  intro a listed hQ hsel ha hl
  simp only [plOK, Bool.and_eq_true] at hl
  rw [nth_eq] at hi
  exact wpAnyH_take (oi := o) (v := v) (by simpa using hi) hsel hl.1.2 hl.1.1 (fun c a w h => hQ c _ _ w (put_defers _ _ _) h)
    (.inl ⟨ha.gd hw, fun w' hS' => y w' hS' a ha⟩) hS (next _ _ hQ hsel (ha.put hd v) hl.2)

theorem nd_op {i : Nat} {o : Oper} {r : Pl} {a : Act} {listed : Array Bool} (hi : nth L i = some o) (e : vS P n L Q o (ND P L Q S r) kn w) (ha : K n kn a) (hQ : okQ Q) (hsel : Region.noSelect L.toArray = true)
    (hl : plOK L.toArray r (listed.setIfInBounds i true) = true) : wpOp P L.toArray Q i (fun a' w' => S w' ∧ wpAnyH P .any L.toArray Q S r.len (listed.setIfInBounds i true) a' w') a w := by
  rw [nth_eq] at hi
  have he := e a ha
  unfold wpOp
  simp only [List.getElem?_toArray, hi]
  split
  · rename_i hw
    rw [if_pos hw] at he
    exact he.imp (Oper.wp_mono (fun a' w' h => ⟨h.1, h.2 hQ hsel _ hl⟩)) id
  · rename_i hw
    rw [if_neg hw] at he
    exact ⟨he.1, he.2 hQ hsel _ hl⟩

theorem vd_do {i : Nat} {o : Oper} {r : Pl} (hi : nth L i = some o) (e : vS P n L Q o (ND P L Q S r) kn w) : vD P n L Q S (.one i r) kn w := by
  intro a listed hQ hsel ha hl
  simp only [plOK, Bool.and_eq_true, beq_iff_eq] at hl
  refine wpAnyH_all hl.1 (by simp) (fun j hj => ?_)
  obtain rfl : j = i := by simpa using hj
  exact nd_op hi e ha hQ hsel hl.2

theorem vd_two {i j : Nat} {o p : Oper} {r s : Pl} (hi : nth L i = some o) (hj : nth L j = some p) (e : vS P n L Q o (ND P L Q S r) kn w) (f : vS P n L Q p (ND P L Q S s) kn w) : vD P n L Q S (.two i j r s) kn w := by
  intro a listed hQ hsel ha hl
  simp only [plOK, Bool.and_eq_true, beq_iff_eq] at hl
  obtain ⟨⟨⟨h1, h2⟩, h3⟩, h4⟩ := hl
  refine wpAnyH_all h1 (by simp) (fun k hk => ?_)
  have hk' : k = i ∨ k = j := by simpa using hk
  rcases hk' with rfl | rfl
  · exact nd_op hi e ha hQ hsel h3
  · rw [h2]; exact nd_op hj f ha hQ hsel h4

theorem vd_draw {id : Nat} (hm : P.follows .mixedOrders = true) (plan : Pl) (S : World → Prop) (hS0 : S w) (hsel : Region.noSelect L.toArray = true) (hQ : okQ Q) (hlen : plan.len = L.length) (hplan : plOK L.toArray plan (Array.replicate L.length false) = true)
    (h : ∀ w', Chg [] w w' → vD P n L Q S plan kn w') : vcC P n (.region id L.toArray true) Q kn w := by
  intro a ha
  refine wp_region_held (S := S) hm ?_
  have := h w.drew (Chg.drew w) a (Array.replicate L.length false) hQ hsel ha hplan
  rw [hlen] at this
  rw [List.size_toArray]
  exact this
end
end Sx

