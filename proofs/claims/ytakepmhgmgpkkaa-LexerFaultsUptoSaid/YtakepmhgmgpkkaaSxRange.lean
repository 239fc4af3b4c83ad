/- The engine, ninth part: a range over a function whose iterator writes blocks of its own between two rounds. -/
import Derived.Test.YtakepmhgmgpkkaaSxDraw
import Derived.RangeFuncNested
import Derived.RangeFuncBound
import Derived.RangeFuncCalls
namespace Sx
open Go Go.RowKit
set_option linter.unusedVariables false
set_option linter.unusedSimpArgs false

/-- only blocks of one make, from 'b' on, may have changed, and new ones come -/
structure KeepO (b : Nat) (T : Obj → Bool) (A B : World) : Prop where
  os : B.os = A.os
  tape : B.tape = A.tape
  output : B.output = A.output
  size : A.heap.size ≤ B.heap.size
  same : ∀ (k : Nat) (o : Obj), A.heap[k]? = some o → (k < b ∨ T o = false) → B.heap[k]? = some o
theorem KeepO.mono {b b' : Nat} {T : Obj → Bool} {A B : World} (h : KeepO b T A B) (hb : b' ≤ b) : KeepO b' T A B := ⟨h.os, h.tape, h.output, h.size, fun k o hk ho => h.same k o hk (ho.imp (fun x => Nat.lt_of_lt_of_le x hb) id)⟩
/-- blocks of one make have not changed -/
structure KeepT (T : Obj → Bool) (A B : World) : Prop where
  size : A.heap.size ≤ B.heap.size
  same : ∀ (k : Nat) (o : Obj), A.heap[k]? = some o → T o = true → B.heap[k]? = some o
theorem KeepT.trans {T : Obj → Bool} {A B C : World} (h : KeepT T A B) (k : KeepT T B C) : KeepT T A C := ⟨Nat.le_trans h.size k.size, fun i o hi ho => k.same i o (h.same i o hi ho) ho⟩
theorem KeepT.putObj {T : Obj → Bool} {W : World} {l : Nat} {o o' : Obj} (h : W.heap[l]? = some o) (ho : T o = false) : KeepT T W (W.putObj l o') :=
  ⟨by simp, fun k p hk hp => by
    by_cases e : k = l
    · subst e; rw [h] at hk; cases hk; rw [ho] at hp; cases hp
    · exact (World.putObj_heap_other e).trans hk⟩

/-- the iterator's contract -/
def SeqX {α : Type} (P : Program) (Tit Tkp : Obj → Bool) (gf : Nat) (lb : Array Value) (encs : α → Array Value) (S Sp : List α → Prop) (N : Nat) (Base : World → Prop) : Prop :=
  ∀ (l : Nat) (J Jx : List α → World → Prop) (W : World), Base W → (∀ s A B, J s A → KeepO W.heap.size Tit A B → J s B) → (∀ s A B, Jx s A → KeepO W.heap.size Tit A B → Jx s B) →
    (∀ pre x W1, J pre W1 → pre.length < N → YieldAt Fence.wide 0 P l (encs x) W1 fun e W' =>
      (e = .returned (.bool true) ∧ J (pre ++ [x]) W' ∧ KeepT Tkp W1 W') ∨ (e = .returned (.bool false) ∧ Jx (pre ++ [x]) W')) →
    J [] W → CallsIn Fence.wide 0 P gf (#[.func (.yield l) #[] #[]] ++ lb) W fun e W' => (∃ v, e = .returned v) ∧ ((∃ xs, S xs ∧ J xs W') ∨ (∃ pre, Sp pre ∧ Jx pre W'))

def isBook (o : Obj) : Bool := match o with | .loop _ => true | .deferred _ => true | _ => false
def postX {α : Type} (Tkp : Obj → Bool) (I : List α → World → Prop) (Ix : Code → List α → World → Prop) (B : Nat) (xs : List α) (W : World) : Exit → Act → World → Prop
  | .normal, _, W' => KeepsFrom B W W' ∧ KeepT Tkp W W' ∧ I xs W'
  | .ret, _, W' => KeepsFrom B W W' ∧ Ix .ret xs W'
  | .exit id, _, W' => KeepsFrom B W W' ∧ Ix (.exit id) xs W'
  | .goto t, _, W' => KeepsFrom B W W' ∧ Ix (.goto t) xs W'
  | .panic _, _, _ => False
  | .outgrown, _, _ => False
/-- what abides the loop's book-keeping -/
def BookOK {β : Type} (B : Nat) (I : β → World → Prop) : Prop := (∀ s W o, I s W → I s (W.alloc o)) ∧ ∀ s (W : World) l o o', I s W → B ≤ l → W.heap[l]? = some o → isBook o = true → I s (W.putObj l o')

theorem rangeFunc_x {P : Program} {α : Type} {g : Operand} {ps : Array Tmp} {assign body : Code} {Q : Exit → Act → World → Prop} {a : Act} {w : World}
    {gf : Nat} {lb : Array Value} (hg : a.eval g = .func (.func gf) #[] lb) (eg : ∀ args w, (callFunc gf args).run P w = .ok (.enter gf args) w)
    {encs : α → Array Value} {Tit Tkp : Obj → Bool} {S Sp : List α → Prop} {N : Nat} {Base : World → Prop} (hseq : SeqX P Tit Tkp gf lb encs S Sp N Base)
    (hTit : ∀ o, isBook o = true → Tit o = false) (hTkp : ∀ o, isBook o = true → Tkp o = false)
    (hps : ∀ x, (encs x).size = ps.size) 
    (I : List α → World → Prop) (Ix : Code → List α → World → Prop) (hI : BookOK w.heap.size I) (hIx : ∀ c, BookOK w.heap.size (Ix c))
    (hIt : ∀ s A B, I s A → KeepO w.heap.size Tit A B → I s B) (hItx : ∀ c s A B, Ix c s A → KeepO w.heap.size Tit A B → Ix c s B) (h0 : I [] w) (hB : ∀ W, I [] W → Base W)
    (hround : ∀ (l : Nat) (pre : List α) (x : α) (W : World), w.heap.size ≤ l → I pre W → pre.length < N →
      assign.wpIn (Fence.wide.inRound l) 0 P (Exit.then (fun a' W' => KeepsFrom w.heap.size W W' ∧ KeepT Tkp W W' ∧ I pre W' ∧ ∀ W'', (∃ r, W''.heap[l]? = some (.loop r)) → I pre W'' → KeepO w.heap.size isBook W' W'' → body.wpIn (Fence.wide.inRound l) 0 P (postX Tkp I Ix w.heap.size (pre ++ [x]) W'') a' W'') (fun _ _ _ => False))
        { tmps := (ps.zip (encs x)).foldl (fun t (p, v) => t.setIfInBounds p v) a.tmps, defers := [] } W)
    (hdone : ∀ (D : Nat) (xs : List α) (W : World), w.heap.size ≤ D → S xs → I xs W → W.heap[D]? = some (.deferred (some [])) → Q .normal { a with defers := { target := .collected D, args := #[] } :: a.defers } W)
    (hstop : ∀ (D : Nat) (c : Code) (pre : List α) (W : World), w.heap.size ≤ D → Sp pre → Ix c pre W → W.heap[D]? = some (.deferred (some [])) → c.wpIn Fence.wide 0 P Q { a with defers := { target := .collected D, args := #[] } :: a.defers } W) :
    (Code.rangeFunc g ps assign body).wpIn Fence.wide 0 P Q a w := by
  refine wpIn_rangeFunc ?_
  intro fn hfn
  obtain ⟨rec, hrec⟩ : ∃ rec : LoopState → Option Code → Loop, rec = fun st pe => { state := st, pending := pe, fn, tmps := a.tmps, params := ps, assign, body, defers := w.heap.size } := ⟨_, rfl⟩
  obtain ⟨W1, hW1⟩ : ∃ W1, (w.alloc (.deferred (some []))).alloc (.loop (rec .ready none)) = W1 := ⟨_, rfl⟩
  have hL1 : W1.heap[w.heap.size + 1]? = some (.loop (rec .ready none)) := by
    rw [← hW1]; have := World.alloc_heap_new (w.alloc (.deferred (some []))) (.loop (rec .ready none)); rwa [World.size_alloc] at this
  have hK1 : W1.heap[w.heap.size]? = some (.deferred (some [])) := by
    rw [← hW1]; exact (Below.heap_alloc _ _ _ (by simp)).trans (World.alloc_heap_new w _)
  have hI1 : I [] W1 := by rw [← hW1]; exact hI.1 _ _ _ (hI.1 _ _ _ h0)
  have hszW : w.heap.size ≤ W1.heap.size := by rw [← hW1]; simp; omega
  have keepB : ∀ (A B : World) (k : Nat) (o : Obj), A.heap[k]? = some o → isBook o = true → KeepO w.heap.size Tit A B → B.heap[k]? = some o := fun A B k o h ho hk => hk.same k o h (.inr (hTit o ho))
  refine ⟨w.heap.size + 1, [{ target := .collected w.heap.size, args := #[] }], W1, { target := .fn (.func gf) lb, args := #[.func (.yield (w.heap.size + 1)) #[] #[]] }, W1, gf,
    #[.func (.yield (w.heap.size + 1)) #[] #[]] ++ lb, W1, ?_, ?_, ?_, ?_, (fun h => by cases h), ?_⟩
  · rw [← hW1, hrec]; exact run_enterLoop_outer _ _ _ _ _
  · simp only [resolve, hg]
    simp [go_sem]
  · intro f' hf'; trivial
  · simp [invoke, go_sem, eg]
  · refine (hseq (w.heap.size + 1)
      (fun pre W => I pre W ∧ W.heap[w.heap.size + 1]? = some (.loop (rec .ready none)) ∧ W.heap[w.heap.size]? = some (.deferred (some [])))
      (fun pre W => ∃ c, Ix c pre W ∧ W.heap[w.heap.size + 1]? = some (.loop (rec .done (some c))) ∧ W.heap[w.heap.size]? = some (.deferred (some [])))
      W1 (hB _ hI1)
      (fun s A B hs hk0 => have hk := hk0.mono hszW
        ⟨hIt s A B hs.1 hk, keepB A B _ _ hs.2.1 rfl hk, keepB A B _ _ hs.2.2 rfl hk⟩)
      (fun s A B hs hk0 => by
        have hk := hk0.mono hszW
        obtain ⟨c, hc, hl, hd⟩ := hs
        exact ⟨c, hItx c s A B hc hk, keepB A B _ _ hl rfl hk, keepB A B _ _ hd rfl hk⟩)
      ?_ ⟨hI1, hL1, hK1⟩).mono ?_
    · rintro pre x W ⟨hi, hl, hk⟩ hlen
      have hlt : w.heap.size + 1 < W.heap.size := (Array.getElem?_eq_some_iff.1 hl).1
      have hy := run_yield (P := P) (args := encs x) hl (by rw [hrec]; exact hps x)
      rw [hrec] at hy
      refine ⟨fn, _, assign, body, hy, roundIn_of_wpIn hfn (wpIn_mono (hround (w.heap.size + 1) pre x W (by omega) hi hlen) ?_)⟩
      clear hy
      intro e a' Wa hp
      cases e with
      | normal =>
        obtain ⟨hkfa, hkpa, hia, hbody⟩ := hp
        replace hl := hkfa.same _ _ (by omega) hl rfl
        replace hk := hkfa.same _ _ (Nat.le_refl _) hk rfl
        replace hlt : w.heap.size + 1 < Wa.heap.size := (Array.getElem?_eq_some_iff.1 hl).1
        refine ⟨_, run_beginRound hl (by rw [hrec]), ?_⟩
        have hl2 : (Wa.putObj (w.heap.size + 1) (.loop { rec .ready none with state := .busy })).heap[w.heap.size + 1]? = some (.loop { rec .ready none with state := .busy }) := World.putObj_heap_same hlt
        have hk2 : (Wa.putObj (w.heap.size + 1) (.loop { rec .ready none with state := .busy })).heap[w.heap.size]? = some (.deferred (some [])) := (World.putObj_heap_other (by omega)).trans hk
        have hw2 : KeepT Tkp Wa (Wa.putObj (w.heap.size + 1) (.loop { rec .ready none with state := .busy })) := .putObj hl (hTkp _ rfl)
        have hb2 : KeepO w.heap.size isBook Wa (Wa.putObj (w.heap.size + 1) (.loop { rec .ready none with state := .busy })) := ⟨rfl, rfl, rfl, by simp, fun k p hk hp => by
          by_cases e : k = w.heap.size + 1
          · subst e; rw [hl] at hk; cases hk; rcases hp with hp | hp; omega; cases hp
          · exact (World.putObj_heap_other e).trans hk⟩
        refine wpIn_mono (hbody _ ⟨_, hl2⟩ (hI.2 _ _ _ _ _ hia (by omega) hl rfl) hb2) ?_
        have fin : ∀ (jump : Option Code) (W3 : World), KeepsFrom w.heap.size (Wa.putObj (w.heap.size + 1) (.loop { rec .ready none with state := .busy })) W3 →
            (Instr.endRound (w.heap.size + 1) jump).run P W3 = .ok (.bool jump.isNone) (W3.putObj (w.heap.size + 1) (.loop (rec (if jump.isNone then .ready else .done) jump))) ∧
            W3.heap[w.heap.size + 1]? = some (.loop { rec .ready none with state := .busy }) ∧
            (W3.putObj (w.heap.size + 1) (.loop (rec (if jump.isNone then .ready else .done) jump))).heap[w.heap.size + 1]? = some (.loop (rec (if jump.isNone then .ready else .done) jump)) ∧
            (W3.putObj (w.heap.size + 1) (.loop (rec (if jump.isNone then .ready else .done) jump))).heap[w.heap.size]? = some (.deferred (some [])) := fun jump W3 hk3 => by
          have hl3 := hk3.same _ _ (by omega) hl2 rfl
          have := run_endRound (P := P) jump hl3
          rw [hrec] at this ⊢
          exact ⟨this, by rw [hrec] at hl3; exact hl3, World.putObj_heap_same (Array.getElem?_eq_some_iff.1 hl3).1, (World.putObj_heap_other (by omega)).trans (hk3.same _ _ (Nat.le_refl _) hk2 rfl)⟩
        rintro e a3 W3 hp
        cases e with
        | normal =>
          obtain ⟨hk3, hkp3, hi3⟩ := hp
          obtain ⟨hr, hl3, hl4, hk4⟩ := fin none W3 hk3
          exact ⟨_, _, hr, .inl ⟨rfl, ⟨hI.2 _ _ _ _ _ hi3 (by omega) hl3 rfl, hl4, hk4⟩, hkpa.trans ((hw2.trans hkp3).trans (.putObj hl3 (hTkp _ rfl)))⟩⟩
        | ret =>
          obtain ⟨hk3, hi3⟩ := hp
          obtain ⟨hr, hl3, hl4, hk4⟩ := fin (some .ret) W3 hk3
          exact ⟨_, _, hr, .inr ⟨rfl, .ret, (hIx _).2 _ _ _ _ _ hi3 (by omega) hl3 rfl, hl4, hk4⟩⟩
        | exit id =>
          obtain ⟨hk3, hi3⟩ := hp
          obtain ⟨hr, hl3, hl4, hk4⟩ := fin (some (.exit id)) W3 hk3
          exact ⟨_, _, hr, .inr ⟨rfl, .exit id, (hIx _).2 _ _ _ _ _ hi3 (by omega) hl3 rfl, hl4, hk4⟩⟩
        | goto t =>
          obtain ⟨hk3, hi3⟩ := hp
          obtain ⟨hr, hl3, hl4, hk4⟩ := fin (some (.goto t)) W3 hk3
          exact ⟨_, _, hr, .inr ⟨rfl, .goto t, (hIx _).2 _ _ _ _ _ hi3 (by omega) hl3 rfl, hl4, hk4⟩⟩
        | panic ch => exact hp.elim
        | outgrown => exact hp.elim
      | exit id => exact hp.elim
      | goto t => exact hp.elim
      | ret => exact hp.elim
      | panic ch => exact hp.elim
      | outgrown => exact hp.elim
    · rintro e W2 ⟨⟨v, rfl⟩, (⟨xs, hS, hi, hl, hk⟩ | ⟨pre, hSp, c, hi, hl, hk⟩)⟩
      · exact ⟨none, _, by have := run_endLoop (P := P) hl (by rw [hrec]; simp); rw [hrec] at this; exact this, hdone _ xs _ (Nat.le_refl _) hS (hI.2 _ _ _ _ _ hi (by omega) hl rfl) ((World.putObj_heap_other (by omega)).trans hk)⟩
      · exact ⟨some c, _, by have := run_endLoop (P := P) hl (by rw [hrec]; simp); rw [hrec] at this; exact this, hstop _ c pre _ (Nat.le_refl _) hSp ((hIx c).2 _ _ _ _ _ hi (by omega) hl rfl) ((World.putObj_heap_other (by omega)).trans hk)⟩
end Sx
