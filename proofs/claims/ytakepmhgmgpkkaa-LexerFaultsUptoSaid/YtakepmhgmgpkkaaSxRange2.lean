/- The engine, eleventh part: a range over a function, in the words of the engine. -/
import Derived.Test.YtakepmhgmgpkkaaSxRound
import Derived.Test.YtakepmhgmgpkkaaSxMore2
import Derived.RangeFuncLeaves
namespace Sx
open Go Go.RowKit
set_option linter.unusedVariables false
set_option linter.unusedSimpArgs false

def mark (D : Nat) : Deferred := { target := .collected D, args := #[] }

/-- the resource's blocks are of no make of 'T' -/
def Res.safe (T : Obj → Bool) : Res → Prop
  | .blk b o => T o = false
  | .own v e size n xs => ∀ cs fz, T (.cells cs e fz) = false
  | .tree S φ => S = []
def safeAll (T : Obj → Bool) (hs : List Res) : Prop := ∀ r ∈ hs, r.safe T

section
variable {w0 w w' : World} {M : List Nat} {hs : List Res} {T : Obj → Bool}
theorem Res.safe_at {base : Nat} {r : Res} (h : r.holds base w) (hs : r.safe T) {k : Nat} (hk : k ∈ r.at?) {o : Obj} (ho : w.heap[k]? = some o) : T o = false := by
  cases r with
  | blk b p => simp [Res.at?] at hk; subst hk; rw [show w.heap[k]? = some p from h] at ho; cases ho; exact hs
  | own v e size n xs =>
    simp only [Res.at?, Option.mem_toList] at hk
    rcases h.2 with ⟨rfl, _⟩ | ⟨g, cap, cur, rfl, _, hg, _⟩
    · simp [Value.ownBlock] at hk
    · simp [Value.ownBlock] at hk; subst hk; rw [hg] at ho; cases ho; exact hs _ _
  | tree S φ => rw [show S = [] from hs] at hk; simp [Res.at?] at hk

theorem St.keepO {b : Nat} (st : St w0 M hs w) (h : KeepO b T w w') (hb : w0.heap.size ≤ b) (hsafe : safeAll T hs) : St w0 M hs w' := by
  have same : ∀ r ∈ hs, ∀ k ∈ r.at?, w'.heap[k]? = w.heap[k]? := fun r hr k hk => by
    have hlt := st.lt hr hk
    obtain ⟨o, ho⟩ : ∃ o, w.heap[k]? = some o := ⟨_, Array.getElem?_eq_getElem hlt⟩
    rw [ho]
    exact h.same k o ho (.inr (Res.safe_at (st.here r hr) (hsafe r hr) hk ho))
  refine ⟨⟨h.os.trans st.chg.os, h.tape.trans st.chg.tape, h.output.trans st.chg.output, Nat.le_trans st.chg.size h.size, fun k hk hn => ?_⟩, st.nodup, fun r hr => ?_⟩
  · have hlt : k < w.heap.size := Nat.lt_of_lt_of_le hk st.chg.size
    obtain ⟨o, ho⟩ : ∃ o, w.heap[k]? = some o := ⟨_, Array.getElem?_eq_getElem hlt⟩
    rw [← st.chg.block k hk hn, ho]
    exact h.same k o ho (.inl (by omega))
  · have hh := st.here r hr
    have hsm := same r hr
    cases r with
    | blk b o => exact (hsm b (by simp [Res.at?])).trans hh
    | own v e size n xs =>
      refine ⟨hh.1, hh.2.imp id fun ⟨g, cap, cur, h1, h2, h3⟩ => ⟨g, cap, cur, h1, h2, ?_⟩⟩
      rw [hsm g (by rw [h1]; simp [Res.at?, Value.ownBlock])]; exact h3
    | tree S φ => exact ⟨hh.2.2 w w' h.size (fun k hk => hsm k hk) hh.1, fun k hk => Nat.lt_of_lt_of_le (hh.2.1 k hk) h.size, hh.2.2⟩

/-- the blocks of a make -/
def makeOf (T : Obj → Bool) (W : World) : List Nat := (List.range W.heap.size).filter fun k => match W.heap[k]? with | some o => T o | none => false
theorem mem_makeOf {W : World} {k : Nat} : k ∈ makeOf T W ↔ ∃ o, W.heap[k]? = some o ∧ T o = true := by
  unfold makeOf
  rw [List.mem_filter, List.mem_range]
  constructor
  · rintro ⟨h1, h2⟩
    rw [Array.getElem?_eq_getElem h1] at h2
    exact ⟨_, Array.getElem?_eq_getElem h1, h2⟩
  · rintro ⟨o, ho, ht⟩
    exact ⟨(Array.getElem?_eq_some_iff.1 ho).1, by rw [ho]; exact ht⟩
/-- what is of a make stays as it is in 'W' -/
def Res.kept (T : Obj → Bool) (W : World) : Res := .tree (makeOf T W) (fun w' => W.heap.size ≤ w'.heap.size ∧ ∀ k ∈ makeOf T W, w'.heap[k]? = W.heap[k]?)
/-- what is of a make, and none of what is held, stays -/
theorem St.hold (st : St w0 M hs w) (hsafe : safeAll T hs) : St w0 M (.kept T w :: hs) w := by
  refine ⟨st.chg, List.pairwise_cons.2 ⟨fun r hr k hk hk' => ?_, st.nodup⟩, fun r hr => ?_⟩
  · obtain ⟨o, ho, ht⟩ := mem_makeOf.1 hk
    rw [Res.safe_at (st.here r hr) (hsafe r hr) hk' ho] at ht; cases ht
  · rcases List.mem_cons.1 hr with rfl | h
    · refine ⟨⟨Nat.le_refl _, fun k _ => rfl⟩, fun k hk => ?_, fun a b hs hk h => ⟨Nat.le_trans h.1 hs, fun k hk' => (hk k hk').trans (h.2 k hk')⟩⟩
      obtain ⟨o, ho, _⟩ := mem_makeOf.1 hk
      exact (Array.getElem?_eq_some_iff.1 ho).1
    · exact st.here r h
/-- a block of its own is added -/
theorem St.addBlk (st : St w0 M hs w) (hsafe : safeAll T hs) {D : Nat} {o : Obj} (ho : w.heap[D]? = some o) (ht : T o = true) : St w0 M (.blk D o :: hs) w := by
  refine ⟨st.chg, List.pairwise_cons.2 ⟨fun r hr k hk hk' => ?_, st.nodup⟩, fun r hr => ?_⟩
  · simp [Res.at?] at hk; subst hk
    rw [Res.safe_at (st.here r hr) (hsafe r hr) hk' ho] at ht; cases ht
  · rcases List.mem_cons.1 hr with rfl | h
    · exact ho
    · exact st.here r h
theorem holdT {base : Nat} {W : World} (h : (Res.kept T W).holds base w) : KeepT T W w :=
  ⟨h.1.1, fun k o hk ho => (h.1.2 k (mem_makeOf.2 ⟨o, hk, ho⟩)).trans hk⟩
end

section
variable {P : Program} {Q : Exit → Act → World → Prop} {kn : Kn} {w w0 : World} {M : List Nat} {hs : List Res}

/-! ### loops whose rounds leave marks -/
def AgainN {α : Type} (nn : α → Fr) (w0 : World) (M : List Nat) (f : α → Kn) (g : α → List Res) (φ : α → World → Prop) (μ : α → Nat) (x : α) (a : Act) (w : World) : Prop :=
  ∃ y, μ y < μ x ∧ φ y w ∧ St w0 M (g y) w ∧ K (nn y) (f y) a
theorem vc_loopn {α : Type} {n : Fr} {c : Code} (nn : α → Fr) (f : α → Kn) (g : α → List Res) (φ : α → World → Prop) (μ : α → Nat) (x : α) (hn : nn x = n) (hk : Sub (f x) kn) (st : St w0 M (g x) w) (h0 : φ x w)
    (round : ∀ x w, φ x w → St w0 M (g x) w → vcC P (nn x) c (Exit.then (AgainN nn w0 M f g φ μ x) Q) (f x) w) : vcC P n (.loop c) Q kn w := by
  intro a ha
  subst hn
  refine Go.wp_loop_ghost (fun k a w => ∃ y, μ y = k ∧ φ y w ∧ St w0 M (g y) w ∧ K (nn y) (f y) a) (μ x) ⟨x, rfl, h0, st, ha.sub hk⟩ ?_
  rintro k a w ⟨y, rfl, h1, h2, h3⟩
  refine Go.wp_mono (round y w h1 h2 a h3) ?_
  intro e a' w' hq
  cases e with
  | normal =>
    obtain ⟨z, hz, hz1, hz2, hz3⟩ := hq
    exact ⟨μ z, hz, z, rfl, hz1, hz2, hz3⟩
  | exit id => exact hq
  | goto l => exact hq
  | ret => exact hq
  | panic ch => exact hq
  | outgrown => exact hq
theorem vq_againn {α : Type} {n : Fr} {nn : α → Fr} {f : α → Kn} {g : α → List Res} {φ : α → World → Prop} {μ : α → Nat} {x : α} (y : α) (hn : nn y = n) (hk : Sub (f y) kn) (st : St w0 M (g y) w) (h0 : φ y w) (hμ : μ y < μ x) :
    vcQ n (Exit.then (AgainN nn w0 M f g φ μ x) Q) .normal kn w := fun a ha => ⟨y, hμ, h0, st, (by subst hn; exact ha.sub hk)⟩
/-- a loop of an iterator: its invariant speaks of the world alone -/
def AgainW {α : Type} (n : Fr) (f : α → Kn) (φ : α → World → Prop) (μ : α → Nat) (x : α) (a : Act) (w : World) : Prop := ∃ y, μ y < μ x ∧ φ y w ∧ K n (f y) a
theorem vr_loopw {α : Type} {n : Fr} {ro : Option Nat} {c : Code} (f : α → Kn) (φ : α → World → Prop) (μ : α → Nat) (x : α) (hk : Sub (f x) kn) (h0 : φ x w)
    (round : ∀ x w, φ x w → vcR P n ro c (Exit.then (AgainW n f φ μ x) Q) (f x) w) : vcR P n ro (.loop c) Q kn w := by
  intro a ha
  refine wpIn_loop_ghost (fun k a w => ∃ y, μ y = k ∧ φ y w ∧ K n (f y) a) (μ x) ⟨x, rfl, h0, ha.sub hk⟩ ?_
  rintro k a w ⟨y, rfl, h1, h3⟩
  refine wpIn_mono (round y w h1 a h3) ?_
  intro e a' w' hq
  cases e with
  | normal =>
    obtain ⟨z, hz, hz1, hz3⟩ := hq
    exact ⟨μ z, hz, z, rfl, hz1, hz3⟩
  | exit id => exact hq
  | goto l => exact hq
  | ret => exact hq
  | panic ch => exact hq
  | outgrown => exact hq
theorem vq_againw {α : Type} {n : Fr} {f : α → Kn} {φ : α → World → Prop} {μ : α → Nat} {x : α} (y : α) (hk : Sub (f y) kn) (h0 : φ y w) (hμ : μ y < μ x) :
    vcQ n (Exit.then (AgainW n f φ μ x) Q) .normal kn w := fun a ha => ⟨y, hμ, h0, ha.sub hk⟩

/-! ### the statement -/
abbrev Kt (T : Obj → Bool) : Obj → Bool := fun o => T o || !o.isCells
/-- what is no cells stays -/
def NC (w W : World) : Prop := ∀ (k : Nat) (o : Obj), w.heap[k]? = some o → o.isCells = false → W.heap[k]? = some o
/-- how a round's body may end -/
def RoundEnd {α β γ : Type} (w0 : World) (M : List Nat) (Tkp : Obj → Bool) (φ : β → List α → Prop) (gI : β → List α → List Res) (φx : γ → Code → List α → Prop) (gX : γ → Code → List α → List Res) (xs : List α) (W : World) : Exit → Act → World → Prop
  | .normal, _, W' => ∃ y, φ y xs ∧ St w0 M (.kept (Kt Tkp) W :: gI y xs) W'
  | .ret, _, W' => ∃ y, φx y .ret xs ∧ St w0 M (.kept (Kt Tkp) W :: gX y .ret xs) W'
  | .exit i, _, W' => ∃ y, φx y (.exit i) xs ∧ St w0 M (.kept (Kt Tkp) W :: gX y (.exit i) xs) W'
  | _, _, _ => False
theorem noOut_round {α β γ : Type} {w0 : World} {M : List Nat} {Tkp : Obj → Bool} {φ : β → List α → Prop} {gI : β → List α → List Res} {φx : γ → Code → List α → Prop} {gX : γ → Code → List α → List Res} {xs : List α} {W : World} : noOut (RoundEnd w0 M Tkp φ gI φx gX xs W) := fun ⟨a, w, h⟩ => h
/-- how the assignment to the loop's variable ends -/
def AssignEnd (P : Program) (m l : Nat) (w0 : World) (M : List Nat) (Tit Tkp : Obj → Bool) (inv : List Res) (body : Code) (Q : World → Exit → Act → World → Prop) (W : World) (a' : Act) (W' : World) : Prop :=
  ∃ kn' hs', K (m, []) kn' a' ∧ safeAll (fun o => Tit o || Kt Tkp o) hs' ∧ St w0 M (.kept (Kt Tkp) W :: inv) W' ∧ St w0 M hs' W' ∧
    ∀ W'', St w0 M (.kept (Kt Tkp) W'' :: hs') W'' → vcR P (m, []) (some l) body (Q W'') kn' W''

theorem safe_mono {T U : Obj → Bool} (h : ∀ o, U o = true → T o = true) {hs : List Res} (hs' : safeAll T hs) : safeAll U hs := by
  have key : ∀ o, T o = false → U o = false := fun o ho => by
    cases hu : U o with
    | false => rfl
    | true => rw [h o hu] at ho; cases ho
  intro r hr
  have hh := hs' r hr
  cases r with
  | blk b o => exact key _ hh
  | own v e size n xs => exact fun cs fz => key _ (hh cs fz)
  | tree S φ => exact hh

theorem vc_range {α β γ : Type} {m : Nat} {ds : List Deferred} {g : Operand} {t : Nat} {assign body : Code} {gf : Nat} {lb : Array Value} (hg : evO kn g = some (.func (.func gf) #[] lb)) (eg : ∀ args w, (callFunc gf args).run P w = .ok (.enter gf args) w)
    {enc : α → Value} {Tit Tkp : Obj → Bool} {S Sp : List α → Prop} {N : Nat} {Base : World → Prop} (hseq : SeqX P Tit Tkp gf lb (fun x => #[enc x]) S Sp N Base)
    (hTit : ∀ o, isBook o = true → Tit o = false) (hTkp : ∀ o, isBook o = true → Tkp o = false) (ht : Nat.blt t m = true)
    (φ : β → List α → Prop) (gI : β → List α → List Res) (φx : γ → Code → List α → Prop) (gX : γ → Code → List α → List Res)
    (hsI : ∀ y pre, safeAll (fun o => Tit o || Kt Tkp o) (gI y pre)) (hsX : ∀ y c pre, safeAll (fun o => Tit o || Kt Tkp o) (gX y c pre))
    (y0 : β) (h0 : φ y0 []) (st : St w0 M (gI y0 []) w) (hB : ∀ W y, St w0 M (gI y []) W → Base W)
    (hassign : ∀ (l : Nat) (pre : List α) (x : α) (y : β) (W : World), φ y pre → pre.length < N → St w0 M (.kept (Kt Tkp) W :: gI y pre) W →
      vcR P (m, []) (some l) assign (Exit.then (AssignEnd P m l w0 M Tit Tkp (gI y pre) body (RoundEnd w0 M Tkp φ gI φx gX (pre ++ [x])) W) (fun _ _ _ => False)) ((t, enc x) :: kn) W)
    (hdone : ∀ (D : Nat) (xs : List α) (y : β) (W : World), w.heap.size ≤ D → W.heap[D]? = some (.deferred (some [])) → NC w W → S xs → φ y xs → St w0 M (gI y xs) W → vcQ (m, mark D :: ds) Q .normal kn W)
    (hstop : ∀ (D : Nat) (c : Code) (pre : List α) (y : γ) (W : World), w.heap.size ≤ D → W.heap[D]? = some (.deferred (some [])) → NC w W → Sp pre → φx y c pre → St w0 M (gX y c pre) W → vcC P (m, mark D :: ds) c Q kn W) :
    vcC P (m, ds) (.rangeFunc g #[t] assign body) Q kn w := by
  intro a ha
  refine (wpIn_wide (n := 0)).1 ?_
  have book : ∀ o, isBook o = true → o.isCells = false := fun o h => by cases o <;> first | rfl | simp [isBook] at h
  have bookK : ∀ o, isBook o = true → (Tit o || Kt Tkp o) = true := fun o h => by simp [Kt, book o h]
  have titK : ∀ o, Tit o = true → (Tit o || Kt Tkp o) = true := fun o h => by simp [h]
  have kpK : ∀ o, Kt Tkp o = true → (Tit o || Kt Tkp o) = true := fun o h => by simp [h]
  have clK : ∀ o : Obj, (!o.isCells) = true → (Tit o || Kt Tkp o) = true := fun o h => by simp [Kt, h]
  have abI : ∀ (T : Obj → Bool), (∀ o, T o = true → (Tit o || Kt Tkp o) = true) → ∀ s A C, (∃ y, φ y s ∧ St w0 M (gI y s) A ∧ NC w A) → KeepO w.heap.size T A C → ∃ y, φ y s ∧ St w0 M (gI y s) C ∧ NC w C := by
    rintro T hT s A C ⟨y, h1, h2, h3⟩ hk
    exact ⟨y, h1, h2.keepO hk st.chg.size (safe_mono hT (hsI y s)), fun k o hk' ho => hk.same k o (h3 k o hk' ho) (.inl (Array.getElem?_eq_some_iff.1 hk').1)⟩
  have abX : ∀ (T : Obj → Bool), (∀ o, T o = true → (Tit o || Kt Tkp o) = true) → ∀ c s A C, (∃ y, φx y c s ∧ St w0 M (gX y c s) A ∧ NC w A) → KeepO w.heap.size T A C → ∃ y, φx y c s ∧ St w0 M (gX y c s) C ∧ NC w C := by
    rintro T hT c s A C ⟨y, h1, h2, h3⟩ hk
    exact ⟨y, h1, h2.keepO hk st.chg.size (safe_mono hT (hsX y c s)), fun k o hk' ho => hk.same k o (h3 k o hk' ho) (.inl (Array.getElem?_eq_some_iff.1 hk').1)⟩
  have alloc' : ∀ (W : World) (o : Obj), KeepO w.heap.size isBook W (W.alloc o) := fun W o => ⟨rfl, rfl, rfl, by simp, fun k p hk _ => by
    have := (Array.getElem?_eq_some_iff.1 hk).1
    rw [(Chg.alloc W o).block k this (by simp)]; exact hk⟩
  have put' : ∀ (W : World) (l : Nat) (o o' : Obj), w.heap.size ≤ l → W.heap[l]? = some o → isBook o = true → KeepO w.heap.size isBook W (W.putObj l o') := fun W l o o' hl ho hb =>
    ⟨rfl, rfl, rfl, by simp, fun k p hk hp => by
      by_cases e : k = l
      · subst e; rw [ho] at hk; cases hk; rcases hp with hp | hp
        · omega
        · rw [hb] at hp; cases hp
      · exact (World.putObj_heap_other e).trans hk⟩
  have kT : ∀ {A B : World}, KeepT (Kt Tkp) A B → KeepsFrom w.heap.size A B ∧ KeepT Tkp A B := fun h =>
    ⟨⟨h.size, fun k o _ hk ho => h.same k o hk (by simp [Kt, ho])⟩, ⟨h.size, fun k o hk ho => h.same k o hk (by simp [Kt, ho])⟩⟩
  refine rangeFunc_x (ha.ev hg) eg hseq hTit hTkp (fun x => rfl) (fun pre W => ∃ y, φ y pre ∧ St w0 M (gI y pre) W ∧ NC w W) (fun c pre W => ∃ y, φx y c pre ∧ St w0 M (gX y c pre) W ∧ NC w W)
    ⟨fun s W o h => abI isBook bookK s W _ h (alloc' W o), fun s W l o o' h hl ho hb => abI isBook bookK s W _ h (put' W l o o' hl ho hb)⟩
    (fun c => ⟨fun s W o h => abX isBook bookK c s W _ h (alloc' W o), fun s W l o o' h hl ho hb => abX isBook bookK c s W _ h (put' W l o o' hl ho hb)⟩)
    (fun s A B h hk => abI Tit titK s A B h hk) (fun c s A B h hk => abX Tit titK c s A B h hk) ⟨y0, h0, st, fun k o h _ => h⟩ (fun W h => by obtain ⟨y, _, h2, _⟩ := h; exact hB W y h2) ?_ ?_ ?_
  · rintro l pre x W hl ⟨y, h1, h2, hnc⟩ hlen
    have h3 := h2.hold (safe_mono kpK (hsI y pre))
    have hka : K (m, []) ((t, enc x) :: kn) { tmps := (#[t].zip #[enc x]).foldl (fun t (p, v) => t.setIfInBounds p v) a.tmps, defers := [] } := by
      have hk0 : K (m, []) kn { tmps := a.tmps, defers := [] } := ⟨rfl, ha.size, ha.get⟩
      have := hk0.put (d := some t) (by simpa [okDst] using ht) (enc x)
      simpa [Sx.put, Act.put] using this
    refine wpIn_mono (hassign l pre x y W h1 hlen h3 _ hka) ?_
    intro e a' W' hq
    cases e with
    | normal =>
      obtain ⟨kn', hs', hk', hsafe', hst', hst2, hbody⟩ := hq
      have kk := kT (holdT (hst'.res (i := 0) rfl))
      have kn1 := holdT (hst'.res (i := 0) rfl)
      refine ⟨kk.1, kk.2, ⟨y, h1, hst'.drop (List.Sublist.cons _ (List.Sublist.refl _)), fun k o hk ho => kn1.same k o (hnc k o hk ho) (by simp [Kt, ho])⟩, fun W'' hloop hI hko => ?_⟩
      obtain ⟨_, _, _, hnc''⟩ := hI
      have hst3 : St w0 M hs' W'' := hst2.keepO hko st.chg.size (safe_mono bookK hsafe')
      have hst4 := hst3.hold (safe_mono kpK hsafe')
      refine wpIn_mono (hbody W'' hst4 a' hk') ?_
      intro e2 a2 W3 hq2
      cases e2 with
      | normal =>
        obtain ⟨y', q1, q2⟩ := hq2
        have k3 := holdT (q2.res (i := 0) rfl)
        have k2 := kT k3
        exact ⟨k2.1, k2.2, y', q1, q2.drop (List.Sublist.cons _ (List.Sublist.refl _)), fun k o hk ho => k3.same k o (hnc'' k o hk ho) (by simp [Kt, ho])⟩
      | ret =>
        obtain ⟨y', q1, q2⟩ := hq2
        have k3 := holdT (q2.res (i := 0) rfl)
        have k2 := kT k3
        exact ⟨k2.1, y', q1, q2.drop (List.Sublist.cons _ (List.Sublist.refl _)), fun k o hk ho => k3.same k o (hnc'' k o hk ho) (by simp [Kt, ho])⟩
      | exit id =>
        obtain ⟨y', q1, q2⟩ := hq2
        have k3 := holdT (q2.res (i := 0) rfl)
        have k2 := kT k3
        exact ⟨k2.1, y', q1, q2.drop (List.Sublist.cons _ (List.Sublist.refl _)), fun k o hk ho => k3.same k o (hnc'' k o hk ho) (by simp [Kt, ho])⟩
      | goto t => exact hq2.elim
      | panic ch => exact hq2.elim
      | outgrown => exact hq2.elim
    | exit id => exact hq.elim
    | goto t => exact hq.elim
    | ret => exact hq.elim
    | panic ch => exact hq.elim
    | outgrown => exact hq.elim
  · rintro D xs W hD hS ⟨y, h1, h2, hnc⟩ hK
    have hka : K (m, mark D :: ds) kn { a with defers := { target := .collected D, args := #[] } :: a.defers } := ⟨by rw [ha.defers]; rfl, ha.size, ha.get⟩
    exact hdone D xs y W hD hK hnc hS h1 h2 _ hka
  · rintro D c pre W hD hS ⟨y, h1, h2, hnc⟩ hK
    have hka : K (m, mark D :: ds) kn { a with defers := { target := .collected D, args := #[] } :: a.defers } := ⟨by rw [ha.defers]; rfl, ha.size, ha.get⟩
    exact wpIn_wide.2 (hstop D c pre y W hD hK hnc hS h1 h2 _ hka)

/-! ### entering, returning where marks lie -/
theorem leavesM {fn : Func} {tmps : Array Value} {R : Ending → World → Prop} {v : Value} (hr : ∀ w, (results fn tmps).run P w = .ok v w) : ∀ (Ds : List Nat) (w : World), Chg M w0 w → Ds.Nodup → (∀ D ∈ Ds, w.heap[D]? = some (.deferred (some [])) ∧ w0.heap.size ≤ D) →
    (∀ w', Chg M w0 w' → R (.returned v) w') → LeavesInM Fence.wide 0 P fn tmps R (Ds.map mark) .returning w
  | [], w, c, _, _, hR => by
    exact ⟨v, hr w, hR w c⟩
  | D :: Ds, w, c, hn, hD, hR => by
    have h1 := hD D (.head _)
    refine ⟨by simp, .inl ⟨D, _, rfl, run_takeDeferred h1.1, ?_⟩⟩
    have hn' := List.nodup_cons.1 hn
    refine leavesM hr Ds _ ⟨c.os, c.tape, c.output, by simpa using c.size, fun k hk hm => ?_⟩ hn'.2 (fun E hE => ⟨?_, (hD E (.tail _ hE)).2⟩) hR
    · rw [World.putObj_heap_other (by omega)]; exact c.block k hk hm
    · rw [World.putObj_heap_other (fun e => by subst e; exact hn'.1 hE)]; exact (hD E (.tail _ hE)).1
theorem vq_retM {m : Nat} {fn : Func} {R : Ending → World → Prop} {t : Nat} {v : Value} {e : Exit} (Ds : List Nat) (st : St w0 M hs w) (he : e = .ret ∨ e = .normal) (hf : fn.results = #[.tmp t]) (h1 : find kn t = some v)
    (hn : Ds.Nodup) (hD : ∀ D ∈ Ds, w.heap[D]? = some (.deferred (some [])) ∧ w0.heap.size ≤ D) (hR : ∀ w', Chg M w0 w' → R (.returned v) w') : vcQ (m, Ds.map mark) (bodyPostM Fence.wide 0 P fn R) e kn w := by
  intro a ha
  have hr : ∀ w, (results fn a.tmps).run P w = .ok v w := fun w => by simp [results_eq, hf, resOne, ha.get t v h1]
  have := leavesM (P := P) hr Ds w st.chg hn hD hR
  have hd : a.defers = Ds.map mark := ha.defers
  rcases he with rfl | rfl <;> (show LeavesInM _ _ _ _ _ _ a.defers _ _; rw [hd]; exact this)
theorem retM_of {m : Nat} {f : FuncId} {fn : Func} {c : Code} (vals : List Value) {Φ : Value → World → Prop} (hf : P.funcs[f]? = some fn) (hb : fn.body = some c) (hn : fn.ntmps = m) (hle : Nat.ble vals.length m = true)
    (h : vcC P (m, []) c (bodyPostM Fence.wide 0 P fn fun e w' => ∃ v, e = .returned v ∧ Φ v w') (enumKn 0 vals) w) : Ret P f vals w Φ := by
  refine (callsIn_wide (n := 0)).1 (callsIn_of_wp_marks hf hb trivial (wpIn_wide.2 (h _ ?_)) rfl)
  have hle' : vals.length ≤ m := by simpa [Nat.ble_eq] using hle
  refine ⟨rfl, ?_, ?_⟩
  · simp only [Array.size_append, List.size_toArray, Array.size_replicate, hn]; omega
  · intro t v ht
    obtain ⟨h1, h2⟩ := find_enumKn vals 0 t v ht
    have hlt : t < vals.length := by
      simp only [Nat.sub_zero] at h2
      exact (List.getElem?_eq_some_iff.1 h2).1
    simp only [Nat.sub_zero] at h2
    rw [Array.getElem?_append_left (by simpa using hlt)]
    simpa using h2
/-- an iterator's contract, from its walk -/
theorem callsIn_enter {m : Nat} {f : FuncId} {fn : Func} {c : Code} (vals : List Value) {R : Ending → World → Prop} (hf : P.funcs[f]? = some fn) (hb : fn.body = some c) (hn : fn.ntmps = m) (hle : Nat.ble vals.length m = true)
    (h : vcR P (m, []) none c (bodyPost P fn R) (enumKn 0 vals) w) : CallsIn Fence.wide 0 P f vals.toArray w R :=
  callsIn_wide.2 (vc_enter hf hb hn hle (vc_of_r h))
end
end Sx
