/- A part of the proof: contracts of functions and plain laws; each theorem says its own conditions. -/
import Derived.Maps.RangeRun
import Derived.Recover
import Derived.Lib.Bytealg
import Derived.Test.YtggnfanphcaamaaGreatDoorK0
/- The engine, eighteenth part: trees whose rows lie each in a block of its own. -/
namespace Sx
open Go Go.RowKit
set_option linter.unusedVariables false
set_option linter.unusedSimpArgs false

def obk : Option Addr → List Nat | some a => [a.block] | none => []
theorem obk_own {oa : Option Addr} {n cap : Nat} : (Value.slice oa n cap).ownBlock.toList = obk oa := by cases oa <;> rfl
theorem owns_kept {w w' : World} {base E size n : Nat} {oa : Option Addr} {m cap : Nat} {xs : List Value} (h : w.ownsRow base E size (.slice oa m cap) n xs) (hk : ∀ b ∈ obk oa, w'.heap[b]? = w.heap[b]?) : w'.ownsRow base E size (.slice oa m cap) n xs := by
  refine ⟨h.1, h.2.imp id fun ⟨g, c, cur, e, hb, hc, hr⟩ => ⟨g, c, cur, e, hb, ?_, hr⟩⟩
  simp only [Value.slice.injEq] at e
  rw [hk g (by rw [e.1]; simp [obk])]; exact hc
theorem owns_lt {w : World} {base E size n : Nat} {oa : Option Addr} {m cap : Nat} {xs : List Value} (h : w.ownsRow base E size (.slice oa m cap) n xs) : ∀ b ∈ obk oa, base ≤ b ∧ b < w.heap.size := by
  intro b hb
  rw [← obk_own (n := m) (cap := cap)] at hb
  exact World.ownsRow.lt h b (by simpa using hb)
theorem owns_mono {w : World} {base base' E size n : Nat} {v : Value} {xs : List Value} (h : w.ownsRow base E size v n xs) (hb : ∀ b, v.ownBlock = some b → base' ≤ b) : w.ownsRow base' E size v n xs :=
  ⟨h.1, h.2.imp id fun ⟨g, c, cur, e, hg, hr⟩ => ⟨g, c, cur, e, hb g (by rw [e]; rfl), hr⟩⟩

section
variable (tE tS tD tT : Nat)
mutual
/-- an expression's cells, and the blocks that its kids lie in -/
def ExS (w : World) : Ex → List Value → List Nat → Prop
  | .mk k op wd nm kids a, l, S => ∃ oa cap xs S', l = [.int .u8 k, .int .u8 op, .int .i64 wd, str nm, .slice oa kids.length cap, .int .i64 a] ∧ w.ownsRow 0 tE 6 (.slice oa kids.length cap) kids.length xs ∧ S = obk oa ++ S' ∧ ExSs w kids xs S'
termination_by structural e => e
def ExSs (w : World) : List Ex → List Value → List Nat → Prop
  | [], xs, S => xs = [] ∧ S = []
  | e :: r, xs, S => ∃ v S1 xr Sr, xs = v ++ xr ∧ S = S1 ++ Sr ∧ ExS w e v S1 ∧ ExSs w r xr Sr
termination_by structural l => l
end
def ExR (w : World) (oa : Option Addr) (cap : Nat) (es : List Ex) (S : List Nat) : Prop := ∃ xs S', w.ownsRow 0 tE 6 (.slice oa es.length cap) es.length xs ∧ S = obk oa ++ S' ∧ ExSs tE w es xs S'
mutual
def SmS (w : World) : Sm → List Value → List Nat → Prop
  | .mk k nm other e body els a, l, S => ∃ oe ce ob cb ol cl Se xb Sb xl Sl, l = [.int .u8 k, str nm, str other, .slice oe e.length ce, .slice ob body.length cb, .slice ol els.length cl, .int .i64 a] ∧ ExR tE w oe ce e Se ∧
      w.ownsRow 0 tS 7 (.slice ob body.length cb) body.length xb ∧ SmSs w body xb Sb ∧ w.ownsRow 0 tS 7 (.slice ol els.length cl) els.length xl ∧ SmSs w els xl Sl ∧ S = Se ++ ((obk ob ++ Sb) ++ (obk ol ++ Sl))
termination_by structural s => s
def SmSs (w : World) : List Sm → List Value → List Nat → Prop
  | [], xs, S => xs = [] ∧ S = []
  | s :: r, xs, S => ∃ v S1 xr Sr, xs = v ++ xr ∧ S = S1 ++ Sr ∧ SmS w s v S1 ∧ SmSs w r xr Sr
termination_by structural l => l
end
def SmR (w : World) (oa : Option Addr) (cap : Nat) (ss : List Sm) (S : List Nat) : Prop := ∃ xs S', w.ownsRow 0 tS 7 (.slice oa ss.length cap) ss.length xs ∧ S = obk oa ++ S' ∧ SmSs tE tS w ss xs S'
def DcR (w : World) (oa : Option Addr) (cap : Nat) (ds : List Dc) (S : List Nat) : Prop := w.ownsRow 0 tD 3 (.slice oa ds.length cap) ds.length (ds.flatMap dcL) ∧ S = obk oa
def ThS (w : World) (t : Th) (l : List Value) (S : List Nat) : Prop := ∃ ol cl ob cb Sl Sb, l = [str t.nm, .slice ol t.locals.length cl, .slice ob t.body.length cb, .int .i64 t.a] ∧ DcR tD w ol cl t.locals Sl ∧ SmR tE tS w ob cb t.body Sb ∧ S = Sl ++ Sb
def ThSs (w : World) : List Th → List Value → List Nat → Prop
  | [], xs, S => xs = [] ∧ S = []
  | t :: r, xs, S => ∃ v S1 xr Sr, xs = v ++ xr ∧ S = S1 ++ Sr ∧ ThS tE tS tD w t v S1 ∧ ThSs w r xr Sr
def ThR (w : World) (oa : Option Addr) (cap : Nat) (ts : List Th) (S : List Nat) : Prop := ∃ xs S', w.ownsRow 0 tT 4 (.slice oa ts.length cap) ts.length xs ∧ S = obk oa ++ S' ∧ ThSs tE tS tD w ts xs S'
def PgS (w : World) (p : Pg) (l : List Value) (S : List Nat) : Prop := ∃ os cs ol cl ot ct Ss Sl St, l = [.slice os p.shared.length cs, .slice ol p.locks.length cl, .slice ot p.threads.length ct] ∧ DcR tD w os cs p.shared Ss ∧ DcR tD w ol cl p.locks Sl ∧ ThR tE tS tD tT w ot ct p.threads St ∧ S = Ss ++ (Sl ++ St)
end

section
variable {tE tS tD tT : Nat} {w w' : World}
theorem ExS_iff {e : Ex} {l : List Value} {S : List Nat} : ExS tE w e l S ↔ ∃ oa cap, l = [.int .u8 e.k, .int .u8 e.op, .int .i64 e.wd, str e.nm, .slice oa e.kids.length cap, .int .i64 e.a] ∧ ExR tE w oa cap e.kids S := by
  cases e with
  | mk k op wd nm kids a =>
    rw [ExS]
    constructor
    · rintro ⟨oa, cap, xs, S', h1, h2, h3, h4⟩
      exact ⟨oa, cap, h1, xs, S', h2, h3, h4⟩
    · rintro ⟨oa, cap, h1, xs, S', h2, h3, h4⟩
      exact ⟨oa, cap, xs, S', h1, h2, h3, h4⟩
theorem SmS_iff {s : Sm} {l : List Value} {S : List Nat} : SmS tE tS w s l S ↔ ∃ oe ce ob cb ol cl Se Sb Sl, l = [.int .u8 s.k, str s.nm, str s.other, .slice oe s.e.length ce, .slice ob s.body.length cb, .slice ol s.els.length cl, .int .i64 s.a] ∧
    ExR tE w oe ce s.e Se ∧ SmR tE tS w ob cb s.body Sb ∧ SmR tE tS w ol cl s.els Sl ∧ S = Se ++ (Sb ++ Sl) := by
  cases s with
  | mk k nm other e body els a =>
    rw [SmS]
    constructor
    · rintro ⟨oe, ce, ob, cb, ol, cl, Se, xb, Sb, xl, Sl, h1, h2, h3, h4, h5, h6, h7⟩
      exact ⟨oe, ce, ob, cb, ol, cl, Se, _, _, h1, h2, ⟨xb, Sb, h3, rfl, h4⟩, ⟨xl, Sl, h5, rfl, h6⟩, h7⟩
    · rintro ⟨oe, ce, ob, cb, ol, cl, Se, _, _, h1, h2, ⟨xb, Sb, h3, rfl, h4⟩, ⟨xl, Sl, h5, rfl, h6⟩, h7⟩
      exact ⟨oe, ce, ob, cb, ol, cl, Se, xb, Sb, xl, Sl, h1, h2, h3, h4, h5, h6, h7⟩
theorem ExS.len {e : Ex} {l : List Value} {S : List Nat} (h : ExS tE w e l S) : l.length = 6 := by obtain ⟨oa, cap, rfl, _⟩ := ExS_iff.1 h; rfl
theorem SmS.len {s : Sm} {l : List Value} {S : List Nat} (h : SmS tE tS w s l S) : l.length = 7 := by obtain ⟨oe, ce, ob, cb, ol, cl, Se, Sb, Sl, rfl, _⟩ := SmS_iff.1 h; rfl
theorem ThS.len {t : Th} {l : List Value} {S : List Nat} (h : ThS tE tS tD w t l S) : l.length = 4 := by obtain ⟨ol, cl, ob, cb, Sl, Sb, rfl, _⟩ := h; rfl
/-! ### what is apart stays -/
mutual
theorem ExS.kept : ∀ {e : Ex} {l : List Value} {S : List Nat}, ExS tE w e l S → (∀ b ∈ S, w'.heap[b]? = w.heap[b]?) → ExS tE w' e l S
  | .mk k op wd nm kids a, l, S, h, hk => by
    rw [ExS] at h ⊢
    obtain ⟨oa, cap, xs, S', h1, h2, rfl, h4⟩ := h
    exact ⟨oa, cap, xs, S', h1, owns_kept h2 (fun b hb => hk b (List.mem_append.2 (.inl hb))), rfl, ExSs.kept h4 (fun b hb => hk b (List.mem_append.2 (.inr hb)))⟩
termination_by structural e => e
theorem ExSs.kept : ∀ {es : List Ex} {xs : List Value} {S : List Nat}, ExSs tE w es xs S → (∀ b ∈ S, w'.heap[b]? = w.heap[b]?) → ExSs tE w' es xs S
  | [], xs, S, h, hk => by rw [ExSs] at h ⊢; exact h
  | e :: r, xs, S, h, hk => by
    rw [ExSs] at h ⊢
    obtain ⟨v, S1, xr, Sr, rfl, rfl, h1, h2⟩ := h
    exact ⟨v, S1, xr, Sr, rfl, rfl, ExS.kept h1 (fun b hb => hk b (List.mem_append.2 (.inl hb))), ExSs.kept h2 (fun b hb => hk b (List.mem_append.2 (.inr hb)))⟩
termination_by structural es => es
end
theorem ExR.kept {oa : Option Addr} {cap : Nat} {es : List Ex} {S : List Nat} (h : ExR tE w oa cap es S) (hk : ∀ b ∈ S, w'.heap[b]? = w.heap[b]?) : ExR tE w' oa cap es S := by
  obtain ⟨xs, S', h1, rfl, h3⟩ := h
  exact ⟨xs, S', owns_kept h1 (fun b hb => hk b (List.mem_append.2 (.inl hb))), rfl, ExSs.kept h3 (fun b hb => hk b (List.mem_append.2 (.inr hb)))⟩
mutual
theorem SmS.kept : ∀ {e : Sm} {l : List Value} {S : List Nat}, SmS tE tS w e l S → (∀ b ∈ S, w'.heap[b]? = w.heap[b]?) → SmS tE tS w' e l S
  | .mk k nm other e body els a, l, S, h, hk => by
    rw [SmS] at h ⊢
    obtain ⟨oe, ce, ob, cb, ol, cl, Se, xb, Sb, xl, Sl, h1, h2, h3, h4, h5, h6, rfl⟩ := h
    exact ⟨oe, ce, ob, cb, ol, cl, Se, xb, Sb, xl, Sl, h1, h2.kept (fun b hb => hk b (by simp [hb])), owns_kept h3 (fun b hb => hk b (by simp [hb])), SmSs.kept h4 (fun b hb => hk b (by simp [hb])),
      owns_kept h5 (fun b hb => hk b (by simp [hb])), SmSs.kept h6 (fun b hb => hk b (by simp [hb])), rfl⟩
termination_by structural e => e
theorem SmSs.kept : ∀ {es : List Sm} {xs : List Value} {S : List Nat}, SmSs tE tS w es xs S → (∀ b ∈ S, w'.heap[b]? = w.heap[b]?) → SmSs tE tS w' es xs S
  | [], xs, S, h, hk => by rw [SmSs] at h ⊢; exact h
  | e :: r, xs, S, h, hk => by
    rw [SmSs] at h ⊢
    obtain ⟨v, S1, xr, Sr, rfl, rfl, h1, h2⟩ := h
    exact ⟨v, S1, xr, Sr, rfl, rfl, SmS.kept h1 (fun b hb => hk b (List.mem_append.2 (.inl hb))), SmSs.kept h2 (fun b hb => hk b (List.mem_append.2 (.inr hb)))⟩
termination_by structural es => es
end
theorem SmR.kept {oa : Option Addr} {cap : Nat} {es : List Sm} {S : List Nat} (h : SmR tE tS w oa cap es S) (hk : ∀ b ∈ S, w'.heap[b]? = w.heap[b]?) : SmR tE tS w' oa cap es S := by
  obtain ⟨xs, S', h1, rfl, h3⟩ := h
  exact ⟨xs, S', owns_kept h1 (fun b hb => hk b (List.mem_append.2 (.inl hb))), rfl, SmSs.kept h3 (fun b hb => hk b (List.mem_append.2 (.inr hb)))⟩
theorem DcR.kept {oa : Option Addr} {cap : Nat} {es : List Dc} {S : List Nat} (h : DcR tD w oa cap es S) (hk : ∀ b ∈ S, w'.heap[b]? = w.heap[b]?) : DcR tD w' oa cap es S := by
  obtain ⟨h1, rfl⟩ := h
  exact ⟨owns_kept h1 hk, rfl⟩
theorem ThS.kept {t : Th} {l : List Value} {S : List Nat} (h : ThS tE tS tD w t l S) (hk : ∀ b ∈ S, w'.heap[b]? = w.heap[b]?) : ThS tE tS tD w' t l S := by
  obtain ⟨ol, cl, ob, cb, Sl, Sb, h1, h2, h3, rfl⟩ := h
  exact ⟨ol, cl, ob, cb, Sl, Sb, h1, h2.kept (fun b hb => hk b (List.mem_append.2 (.inl hb))), h3.kept (fun b hb => hk b (List.mem_append.2 (.inr hb))), rfl⟩
theorem ThSs.kept : ∀ {es : List Th} {xs : List Value} {S : List Nat}, ThSs tE tS tD w es xs S → (∀ b ∈ S, w'.heap[b]? = w.heap[b]?) → ThSs tE tS tD w' es xs S
  | [], xs, S, h, hk => by rw [ThSs] at h ⊢; exact h
  | e :: r, xs, S, h, hk => by
    rw [ThSs] at h ⊢
    obtain ⟨v, S1, xr, Sr, rfl, rfl, h1, h2⟩ := h
    exact ⟨v, S1, xr, Sr, rfl, rfl, h1.kept (fun b hb => hk b (List.mem_append.2 (.inl hb))), ThSs.kept h2 (fun b hb => hk b (List.mem_append.2 (.inr hb)))⟩
theorem ThR.kept {oa : Option Addr} {cap : Nat} {es : List Th} {S : List Nat} (h : ThR tE tS tD tT w oa cap es S) (hk : ∀ b ∈ S, w'.heap[b]? = w.heap[b]?) : ThR tE tS tD tT w' oa cap es S := by
  obtain ⟨xs, S', h1, rfl, h3⟩ := h
  exact ⟨xs, S', owns_kept h1 (fun b hb => hk b (List.mem_append.2 (.inl hb))), rfl, ThSs.kept h3 (fun b hb => hk b (List.mem_append.2 (.inr hb)))⟩
theorem PgS.kept {p : Pg} {l : List Value} {S : List Nat} (h : PgS tE tS tD tT w p l S) (hk : ∀ b ∈ S, w'.heap[b]? = w.heap[b]?) : PgS tE tS tD tT w' p l S := by
  obtain ⟨os, cs, ol, cl, ot, ct, Ss, Sl, St, h1, h2, h3, h4, rfl⟩ := h
  exact ⟨os, cs, ol, cl, ot, ct, Ss, Sl, St, h1, h2.kept (fun b hb => hk b (by simp [hb])), h3.kept (fun b hb => hk b (by simp [hb])), h4.kept (fun b hb => hk b (by simp [hb])), rfl⟩

/-! ### the blocks are there -/
mutual
theorem ExS.lt : ∀ {e : Ex} {l : List Value} {S : List Nat}, ExS tE w e l S → ∀ b ∈ S, b < w.heap.size
  | .mk k op wd nm kids a, l, S, h, b, hb => by
    rw [ExS] at h
    obtain ⟨oa, cap, xs, S', h1, h2, rfl, h4⟩ := h
    rcases List.mem_append.1 hb with hb | hb
    · exact (owns_lt h2 b hb).2
    · exact ExSs.lt h4 b hb
termination_by structural e => e
theorem ExSs.lt : ∀ {es : List Ex} {xs : List Value} {S : List Nat}, ExSs tE w es xs S → ∀ b ∈ S, b < w.heap.size
  | [], xs, S, h, b, hb => by rw [ExSs] at h; rw [h.2] at hb; cases hb
  | e :: r, xs, S, h, b, hb => by
    rw [ExSs] at h
    obtain ⟨v, S1, xr, Sr, rfl, rfl, h1, h2⟩ := h
    rcases List.mem_append.1 hb with hb | hb
    · exact ExS.lt h1 b hb
    · exact ExSs.lt h2 b hb
termination_by structural es => es
end
theorem ExR.lt {oa : Option Addr} {cap : Nat} {es : List Ex} {S : List Nat} (h : ExR tE w oa cap es S) : ∀ b ∈ S, b < w.heap.size := by
  obtain ⟨xs, S', h1, rfl, h3⟩ := h
  intro b hb
  rcases List.mem_append.1 hb with hb | hb
  · exact (owns_lt h1 b hb).2
  · exact ExSs.lt h3 b hb
mutual
theorem SmS.lt : ∀ {e : Sm} {l : List Value} {S : List Nat}, SmS tE tS w e l S → ∀ b ∈ S, b < w.heap.size
  | .mk k nm other e body els a, l, S, h, b, hb => by
    rw [SmS] at h
    obtain ⟨oe, ce, ob, cb, ol, cl, Se, xb, Sb, xl, Sl, h1, h2, h3, h4, h5, h6, rfl⟩ := h
    simp only [List.mem_append] at hb
    rcases hb with hb | (hb | hb) | (hb | hb)
    · exact h2.lt b hb
    · exact (owns_lt h3 b hb).2
    · exact SmSs.lt h4 b hb
    · exact (owns_lt h5 b hb).2
    · exact SmSs.lt h6 b hb
termination_by structural e => e
theorem SmSs.lt : ∀ {es : List Sm} {xs : List Value} {S : List Nat}, SmSs tE tS w es xs S → ∀ b ∈ S, b < w.heap.size
  | [], xs, S, h, b, hb => by rw [SmSs] at h; rw [h.2] at hb; cases hb
  | e :: r, xs, S, h, b, hb => by
    rw [SmSs] at h
    obtain ⟨v, S1, xr, Sr, rfl, rfl, h1, h2⟩ := h
    rcases List.mem_append.1 hb with hb | hb
    · exact SmS.lt h1 b hb
    · exact SmSs.lt h2 b hb
termination_by structural es => es
end
theorem SmR.lt {oa : Option Addr} {cap : Nat} {es : List Sm} {S : List Nat} (h : SmR tE tS w oa cap es S) : ∀ b ∈ S, b < w.heap.size := by
  obtain ⟨xs, S', h1, rfl, h3⟩ := h
  intro b hb
  rcases List.mem_append.1 hb with hb | hb
  · exact (owns_lt h1 b hb).2
  · exact SmSs.lt h3 b hb
theorem DcR.lt {oa : Option Addr} {cap : Nat} {es : List Dc} {S : List Nat} (h : DcR tD w oa cap es S) : ∀ b ∈ S, b < w.heap.size := by
  obtain ⟨h1, rfl⟩ := h
  exact fun b hb => (owns_lt h1 b hb).2
theorem ThS.lt {t : Th} {l : List Value} {S : List Nat} (h : ThS tE tS tD w t l S) : ∀ b ∈ S, b < w.heap.size := by
  obtain ⟨ol, cl, ob, cb, Sl, Sb, h1, h2, h3, rfl⟩ := h
  intro b hb
  rcases List.mem_append.1 hb with hb | hb
  · exact h2.lt b hb
  · exact h3.lt b hb
theorem ThSs.lt : ∀ {es : List Th} {xs : List Value} {S : List Nat}, ThSs tE tS tD w es xs S → ∀ b ∈ S, b < w.heap.size
  | [], xs, S, h, b, hb => by rw [ThSs] at h; rw [h.2] at hb; cases hb
  | e :: r, xs, S, h, b, hb => by
    rw [ThSs] at h
    obtain ⟨v, S1, xr, Sr, rfl, rfl, h1, h2⟩ := h
    rcases List.mem_append.1 hb with hb | hb
    · exact h1.lt b hb
    · exact ThSs.lt h2 b hb
theorem ThR.lt {oa : Option Addr} {cap : Nat} {es : List Th} {S : List Nat} (h : ThR tE tS tD tT w oa cap es S) : ∀ b ∈ S, b < w.heap.size := by
  obtain ⟨xs, S', h1, rfl, h3⟩ := h
  intro b hb
  rcases List.mem_append.1 hb with hb | hb
  · exact (owns_lt h1 b hb).2
  · exact ThSs.lt h3 b hb
theorem PgS.lt {p : Pg} {l : List Value} {S : List Nat} (h : PgS tE tS tD tT w p l S) : ∀ b ∈ S, b < w.heap.size := by
  obtain ⟨os, cs, ol, cl, ot, ct, Ss, Sl, St, h1, h2, h3, h4, rfl⟩ := h
  intro b hb
  simp only [List.mem_append] at hb
  rcases hb with hb | hb | hb
  · exact h2.lt b hb
  · exact h3.lt b hb
  · exact h4.lt b hb

/-! ### lists of them -/
theorem ExSs_app : ∀ {a b : List Ex} {xs : List Value} {S : List Nat}, ExSs tE w (a ++ b) xs S ↔ ∃ xa xb Sa Sb, xs = xa ++ xb ∧ S = Sa ++ Sb ∧ ExSs tE w a xa Sa ∧ ExSs tE w b xb Sb
  | [], b, xs, S => by
    simp only [List.nil_append, ExSs]
    constructor
    · intro h; exact ⟨[], xs, [], S, rfl, rfl, ⟨rfl, rfl⟩, h⟩
    · rintro ⟨xa, xb, Sa, Sb, rfl, rfl, ⟨rfl, rfl⟩, h⟩; exact h
  | e :: r, b, xs, S => by
    simp only [List.cons_append, ExSs]
    constructor
    · rintro ⟨v, S1, xr, Sr, rfl, rfl, h1, h2⟩
      obtain ⟨xa, xb, Sa, Sb, rfl, rfl, h3, h4⟩ := ExSs_app.1 h2
      exact ⟨v ++ xa, xb, S1 ++ Sa, Sb, by simp, by simp, ⟨v, S1, xa, Sa, rfl, rfl, h1, h3⟩, h4⟩
    · rintro ⟨_, xb, _, Sb, rfl, rfl, ⟨v, S1, xa, Sa, rfl, rfl, h1, h3⟩, h4⟩
      exact ⟨v, S1, xa ++ xb, Sa ++ Sb, by simp, by simp, h1, ExSs_app.2 ⟨xa, xb, Sa, Sb, rfl, rfl, h3, h4⟩⟩
theorem SmSs_app : ∀ {a b : List Sm} {xs : List Value} {S : List Nat}, SmSs tE tS w (a ++ b) xs S ↔ ∃ xa xb Sa Sb, xs = xa ++ xb ∧ S = Sa ++ Sb ∧ SmSs tE tS w a xa Sa ∧ SmSs tE tS w b xb Sb
  | [], b, xs, S => by
    simp only [List.nil_append, SmSs]
    constructor
    · intro h; exact ⟨[], xs, [], S, rfl, rfl, ⟨rfl, rfl⟩, h⟩
    · rintro ⟨xa, xb, Sa, Sb, rfl, rfl, ⟨rfl, rfl⟩, h⟩; exact h
  | e :: r, b, xs, S => by
    simp only [List.cons_append, SmSs]
    constructor
    · rintro ⟨v, S1, xr, Sr, rfl, rfl, h1, h2⟩
      obtain ⟨xa, xb, Sa, Sb, rfl, rfl, h3, h4⟩ := SmSs_app.1 h2
      exact ⟨v ++ xa, xb, S1 ++ Sa, Sb, by simp, by simp, ⟨v, S1, xa, Sa, rfl, rfl, h1, h3⟩, h4⟩
    · rintro ⟨_, xb, _, Sb, rfl, rfl, ⟨v, S1, xa, Sa, rfl, rfl, h1, h3⟩, h4⟩
      exact ⟨v, S1, xa ++ xb, Sa ++ Sb, by simp, by simp, h1, SmSs_app.2 ⟨xa, xb, Sa, Sb, rfl, rfl, h3, h4⟩⟩
theorem ThSs_app : ∀ {a b : List Th} {xs : List Value} {S : List Nat}, ThSs tE tS tD w (a ++ b) xs S ↔ ∃ xa xb Sa Sb, xs = xa ++ xb ∧ S = Sa ++ Sb ∧ ThSs tE tS tD w a xa Sa ∧ ThSs tE tS tD w b xb Sb
  | [], b, xs, S => by
    simp only [List.nil_append, ThSs]
    constructor
    · intro h; exact ⟨[], xs, [], S, rfl, rfl, ⟨rfl, rfl⟩, h⟩
    · rintro ⟨xa, xb, Sa, Sb, rfl, rfl, ⟨rfl, rfl⟩, h⟩; exact h
  | e :: r, b, xs, S => by
    simp only [List.cons_append, ThSs]
    constructor
    · rintro ⟨v, S1, xr, Sr, rfl, rfl, h1, h2⟩
      obtain ⟨xa, xb, Sa, Sb, rfl, rfl, h3, h4⟩ := ThSs_app.1 h2
      exact ⟨v ++ xa, xb, S1 ++ Sa, Sb, by simp, by simp, ⟨v, S1, xa, Sa, rfl, rfl, h1, h3⟩, h4⟩
    · rintro ⟨_, xb, _, Sb, rfl, rfl, ⟨v, S1, xa, Sa, rfl, rfl, h1, h3⟩, h4⟩
      exact ⟨v, S1, xa ++ xb, Sa ++ Sb, by simp, by simp, h1, ThSs_app.2 ⟨xa, xb, Sa, Sb, rfl, rfl, h3, h4⟩⟩
theorem ExSs_one {e : Ex} {xs : List Value} {S : List Nat} : ExSs tE w [e] xs S ↔ ExS tE w e xs S := by
  simp only [ExSs]
  constructor
  · rintro ⟨v, S1, xr, Sr, rfl, rfl, h1, rfl, rfl⟩; simpa using h1
  · intro h; exact ⟨xs, S, [], [], by simp, by simp, h, rfl, rfl⟩
theorem SmSs_one {e : Sm} {xs : List Value} {S : List Nat} : SmSs tE tS w [e] xs S ↔ SmS tE tS w e xs S := by
  simp only [SmSs]
  constructor
  · rintro ⟨v, S1, xr, Sr, rfl, rfl, h1, rfl, rfl⟩; simpa using h1
  · intro h; exact ⟨xs, S, [], [], by simp, by simp, h, rfl, rfl⟩
theorem ThSs_one {e : Th} {xs : List Value} {S : List Nat} : ThSs tE tS tD w [e] xs S ↔ ThS tE tS tD w e xs S := by
  simp only [ThSs]
  constructor
  · rintro ⟨v, S1, xr, Sr, rfl, rfl, h1, rfl, rfl⟩; simpa using h1
  · intro h; exact ⟨xs, S, [], [], by simp, by simp, h, rfl, rfl⟩
theorem SmSs.snoc {a : List Sm} {e : Sm} {xs l : List Value} {S S1 : List Nat} (h : SmSs tE tS w a xs S) (h1 : SmS tE tS w e l S1) : SmSs tE tS w (a ++ [e]) (xs ++ l) (S ++ S1) := SmSs_app.2 ⟨xs, l, S, S1, rfl, rfl, h, SmSs_one.2 h1⟩
theorem ThSs.snoc {a : List Th} {e : Th} {xs l : List Value} {S S1 : List Nat} (h : ThSs tE tS tD w a xs S) (h1 : ThS tE tS tD w e l S1) : ThSs tE tS tD w (a ++ [e]) (xs ++ l) (S ++ S1) := ThSs_app.2 ⟨xs, l, S, S1, rfl, rfl, h, ThSs_one.2 h1⟩
theorem ThSs.get : ∀ {es : List Th} {xs : List Value} {S : List Nat} {j : Nat} {e : Th}, ThSs tE tS tD w es xs S → es[j]? = some e → ∃ Sj, ThS tE tS tD w e ((xs.drop (j * 4)).take 4) Sj ∧ ∀ b ∈ Sj, b ∈ S
  | [], xs, S, j, e, h, hj => by simp at hj
  | x :: r, xs, S, 0, e, h, hj => by
    rw [ThSs] at h
    obtain ⟨v, S1, xr, Sr, rfl, rfl, h1, h2⟩ := h
    simp only [List.getElem?_cons_zero, Option.some.injEq] at hj
    subst hj
    refine ⟨S1, ?_, fun b hb => List.mem_append.2 (.inl hb)⟩
    simpa [List.take_append_of_le_length, List.take_of_length_le, h1.len] using h1
  | x :: r, xs, S, j + 1, e, h, hj => by
    rw [ThSs] at h
    obtain ⟨v, S1, xr, Sr, rfl, rfl, h1, h2⟩ := h
    obtain ⟨Sj, h3, h4⟩ := ThSs.get h2 (by simpa using hj)
    refine ⟨Sj, ?_, fun b hb => List.mem_append.2 (.inr (h4 b hb))⟩
    rw [show (j + 1) * 4 = v.length + j * 4 by rw [h1.len]; omega, ← List.drop_drop, List.drop_left]
    exact h3

/-! ### read as rows -/
theorem rowC_own {oa : Option Addr} {n cap E sz : Nat} {xs : List Value} {S : Nat → Prop} (h : w.ownsRow 0 E sz (.slice oa n cap) n xs) (hS : ∀ b ∈ obk oa, S b) : RowC w S sz oa n (fun j => (xs.drop (j * sz)).take sz) := by
  rcases Nat.eq_zero_or_pos n with h0 | h0
  · exact .inl h0
  · right
    obtain ⟨g, c, e, -⟩ := own_form h h0
    simp only [Value.slice.injEq] at e
    obtain ⟨rfl, -, rfl⟩ := e
    refine ⟨g, 0, rfl, hS g (by simp [obk]), (owns_lt h g (by simp [obk])).2, fun j hj => ⟨?_, fun i v hi => ?_⟩⟩
    · have h1 : xs.length = n * sz := h.1
      have h2 : j * sz + sz ≤ n * sz := by rw [← Nat.succ_mul]; exact Nat.mul_le_mul_right _ hj
      simp; omega
    · rw [List.getElem?_take] at hi
      split at hi
      · rw [List.getElem?_drop] at hi
        rw [Nat.zero_add]
        exact own_cell h hi
      · cases hi
mutual
theorem ExS.toV {T : Nat → Prop} : ∀ {e : Ex} {l : List Value} {S : List Nat}, ExS tE w e l S → (∀ b ∈ S, T b) → ExV w T e l
  | .mk k op wd nm kids a, l, S, h, hS => by
    rw [ExS] at h
    obtain ⟨oa, cap, xs, S', rfl, h2, rfl, h4⟩ := h
    refine .mk _ (rowC_own h2 fun b hb => hS b (List.mem_append.2 (.inl hb))) ?_
    exact ExSs.toV h4 (fun b hb => hS b (List.mem_append.2 (.inr hb)))
termination_by structural e => e
theorem ExSs.toV {T : Nat → Prop} : ∀ {es : List Ex} {xs : List Value} {S : List Nat}, ExSs tE w es xs S → (∀ b ∈ S, T b) → ∀ (j : Nat) x, es[j]? = some x → ExV w T x ((xs.drop (j * 6)).take 6)
  | [], xs, S, h, hS, j, x, hx => by simp at hx
  | e :: r, xs, S, h, hS, 0, x, hx => by
    rw [ExSs] at h
    obtain ⟨v, S1, xr, Sr, rfl, rfl, h1, h2⟩ := h
    simp only [List.getElem?_cons_zero, Option.some.injEq] at hx
    subst hx
    have := ExS.toV h1 (fun b hb => hS b (List.mem_append.2 (.inl hb)))
    simpa [List.take_append_of_le_length, List.take_of_length_le, h1.len] using this
  | e :: r, xs, S, h, hS, j + 1, x, hx => by
    rw [ExSs] at h
    obtain ⟨v, S1, xr, Sr, rfl, rfl, h1, h2⟩ := h
    have := ExSs.toV h2 (fun b hb => hS b (List.mem_append.2 (.inr hb))) j x (by simpa using hx)
    rw [show (j + 1) * 6 = v.length + j * 6 by rw [h1.len]; omega, ← List.drop_drop, List.drop_left]
    exact this
termination_by structural es => es
end
theorem ExR.toRow {T : Nat → Prop} {oa : Option Addr} {cap : Nat} {es : List Ex} {S : List Nat} (h : ExR tE w oa cap es S) (hS : ∀ b ∈ S, T b) : ExRow w T oa es := by
  obtain ⟨xs, S', h1, rfl, h3⟩ := h
  exact ⟨_, rowC_own h1 fun b hb => hS b (List.mem_append.2 (.inl hb)), ExSs.toV h3 (fun b hb => hS b (List.mem_append.2 (.inr hb)))⟩
mutual
theorem SmS.toV {T : Nat → Prop} : ∀ {e : Sm} {l : List Value} {S : List Nat}, SmS tE tS w e l S → (∀ b ∈ S, T b) → SmV w T e l
  | .mk k nm other e body els a, l, S, h, hS => by
    rw [SmS] at h
    obtain ⟨oe, ce, ob, cb, ol, cl, Se, xb, Sb, xl, Sl, rfl, h2, h3, h4, h5, h6, rfl⟩ := h
    exact .mk _ _ (h2.toRow fun b hb => hS b (by simp [hb])) (rowC_own h3 fun b hb => hS b (by simp [hb])) (SmSs.toV h4 fun b hb => hS b (by simp [hb])) (rowC_own h5 fun b hb => hS b (by simp [hb])) (SmSs.toV h6 fun b hb => hS b (by simp [hb]))
termination_by structural e => e
theorem SmSs.toV {T : Nat → Prop} : ∀ {es : List Sm} {xs : List Value} {S : List Nat}, SmSs tE tS w es xs S → (∀ b ∈ S, T b) → ∀ (j : Nat) x, es[j]? = some x → SmV w T x ((xs.drop (j * 7)).take 7)
  | [], xs, S, h, hS, j, x, hx => by simp at hx
  | e :: r, xs, S, h, hS, 0, x, hx => by
    rw [SmSs] at h
    obtain ⟨v, S1, xr, Sr, rfl, rfl, h1, h2⟩ := h
    simp only [List.getElem?_cons_zero, Option.some.injEq] at hx
    subst hx
    have := SmS.toV h1 (fun b hb => hS b (List.mem_append.2 (.inl hb)))
    simpa [List.take_append_of_le_length, List.take_of_length_le, h1.len] using this
  | e :: r, xs, S, h, hS, j + 1, x, hx => by
    rw [SmSs] at h
    obtain ⟨v, S1, xr, Sr, rfl, rfl, h1, h2⟩ := h
    have := SmSs.toV h2 (fun b hb => hS b (List.mem_append.2 (.inr hb))) j x (by simpa using hx)
    rw [show (j + 1) * 7 = v.length + j * 7 by rw [h1.len]; omega, ← List.drop_drop, List.drop_left]
    exact this
termination_by structural es => es
end
theorem SmR.toRow {T : Nat → Prop} {oa : Option Addr} {cap : Nat} {es : List Sm} {S : List Nat} (h : SmR tE tS w oa cap es S) (hS : ∀ b ∈ S, T b) : SmRow w T oa es := by
  obtain ⟨xs, S', h1, rfl, h3⟩ := h
  exact ⟨_, rowC_own h1 fun b hb => hS b (List.mem_append.2 (.inl hb)), SmSs.toV h3 (fun b hb => hS b (List.mem_append.2 (.inr hb)))⟩
theorem dcs_chunk : ∀ {ds : List Dc} {j : Nat} {d : Dc}, ds[j]? = some d → ((ds.flatMap dcL).drop (j * 3)).take 3 = dcL d
  | [], j, d, h => by simp at h
  | x :: r, 0, d, h => by
    simp only [List.getElem?_cons_zero, Option.some.injEq] at h
    subst h
    simp [dcL]
  | x :: r, j + 1, d, h => by
    rw [List.flatMap_cons, show (j + 1) * 3 = (dcL x).length + j * 3 by simp [dcL]; omega, ← List.drop_drop, List.drop_left]
    exact dcs_chunk (by simpa using h)
theorem DcR.toRow {T : Nat → Prop} {oa : Option Addr} {cap : Nat} {es : List Dc} {S : List Nat} (h : DcR tD w oa cap es S) (hS : ∀ b ∈ S, T b) : DcRow w T oa es := by
  obtain ⟨h1, rfl⟩ := h
  refine (rowC_own h1 hS).imp id fun ⟨b, off, e, hb, hl, hc⟩ => ⟨b, off, e, hb, hl, fun j hj => ?_⟩
  have := hc j hj
  dsimp only at this
  rw [dcs_chunk (List.getElem?_eq_getElem hj)] at this
  simpa only [List.getD, List.getElem?_eq_getElem hj, Option.getD_some] using this
theorem ThS.toV {T : Nat → Prop} {t : Th} {l : List Value} {S : List Nat} (h : ThS tE tS tD w t l S) (hS : ∀ b ∈ S, T b) : ThV w T t l := by
  obtain ⟨ol, cl, ob, cb, Sl, Sb, h1, h2, h3, rfl⟩ := h
  exact ⟨ol, cl, ob, cb, h1, h2.toRow fun b hb => hS b (by simp [hb]), h3.toRow fun b hb => hS b (by simp [hb])⟩
theorem ThSs.toV {T : Nat → Prop} {es : List Th} {xs : List Value} {S : List Nat} (h : ThSs tE tS tD w es xs S) (hS : ∀ b ∈ S, T b) (j : Nat) (x : Th) (hx : es[j]? = some x) : ThV w T x ((xs.drop (j * 4)).take 4) := by
  obtain ⟨Sj, h1, h2⟩ := h.get hx
  exact h1.toV fun b hb => hS b (h2 b hb)
theorem ThR.toRow {T : Nat → Prop} {oa : Option Addr} {cap : Nat} {es : List Th} {S : List Nat} (h : ThR tE tS tD tT w oa cap es S) (hS : ∀ b ∈ S, T b) : ThRow w T oa es := by
  obtain ⟨xs, S', h1, rfl, h3⟩ := h
  exact ⟨_, rowC_own h1 fun b hb => hS b (List.mem_append.2 (.inl hb)), h3.toV (fun b hb => hS b (List.mem_append.2 (.inr hb)))⟩
theorem PgS.toV {T : Nat → Prop} {p : Pg} {l : List Value} {S : List Nat} (h : PgS tE tS tD tT w p l S) (hS : ∀ b ∈ S, T b) : PgV w T p l := by
  obtain ⟨os, cs, ol, cl, ot, ct, Ss, Sl, St, h1, h2, h3, h4, rfl⟩ := h
  exact ⟨os, cs, ol, cl, ot, ct, h1, h2.toRow fun b hb => hS b (by simp [hb]), h3.toRow fun b hb => hS b (by simp [hb]), h4.toRow fun b hb => hS b (by simp [hb])⟩

/-! ### new trees, held -/
/-- the blocks are new since 'n', each is named once -/
def Nw (n : Nat) (S : List Nat) : Prop := S.Nodup ∧ ∀ b ∈ S, n ≤ b
theorem Nw.nil {n : Nat} : Nw n [] := ⟨List.nodup_nil, by simp⟩
theorem Nw.le {n m : Nat} {S : List Nat} (h : Nw n S) (hm : m ≤ n) : Nw m S := ⟨h.1, fun b hb => Nat.le_trans hm (h.2 b hb)⟩
theorem Nw.app {n : Nat} {S T : List Nat} (h : Nw n S) (k : Nw n T) (hd : ∀ b ∈ S, b ∉ T) : Nw n (S ++ T) := ⟨List.nodup_append.2 ⟨h.1, k.1, fun a ha b hb e => hd a ha (e ▸ hb)⟩, fun b hb => by
  rcases List.mem_append.1 hb with h1 | h1
  · exact h.2 b h1
  · exact k.2 b h1⟩
theorem Nw.left {n : Nat} {S T : List Nat} (h : Nw n (S ++ T)) : Nw n S := ⟨(List.nodup_append.1 h.1).1, fun b hb => h.2 b (List.mem_append.2 (.inl hb))⟩
theorem Nw.right {n : Nat} {S T : List Nat} (h : Nw n (S ++ T)) : Nw n T := ⟨(List.nodup_append.1 h.1).2.1, fun b hb => h.2 b (List.mem_append.2 (.inr hb))⟩
/-- what hangs on the blocks 'S' alone -/
theorem loc_of {S : List Nat} {φ : World → Prop} (h : ∀ w w', φ w → (∀ b ∈ S, w'.heap[b]? = w.heap[b]?) → φ w') : Loc S φ := fun a b _ hk hp => h a b hp hk
theorem holds_of {base : Nat} {S : List Nat} {φ : World → Prop} (h : φ w) (hlt : ∀ b ∈ S, b < w.heap.size) (hk : ∀ w w', φ w → (∀ b ∈ S, w'.heap[b]? = w.heap[b]?) → φ w') : (Res.tree S φ).holds base w := ⟨h, hlt, loc_of hk⟩
end
end Sx


/- The engine, nineteenth part: rows of another's copied; new trees put together. -/
namespace Sx
open Go Go.RowKit
set_option linter.unusedVariables false
set_option linter.unusedSimpArgs false
section
variable {w0 w w' : World} {M : List Nat} {hs : List Res}
variable {P : Program} {n : Fr} {L : List Oper} {Q : Exit → Act → World → Prop} {kn : Kn} {N : Act → World → Prop}
variable {d ty : Nat} {pos : String} {aft : Array Edge} {g : Option (Nat × Bool)}
/-- a row that can be read, or an empty one -/
def RdRowC (w : World) (oa : Option Addr) (l : List Value) : Prop := l = [] ∨ ∃ a, oa = some a ∧ ∀ k u, l[k]? = some u → w.cell? (a.add k) = some u
theorem run_append_none' (base : Nat) (t ty e : TypeId) (i : TypeInfo) (size c : Nat) (ht : P.underlying t = some (.slice e)) (hi : P.info? e = some i) (v : Value) (n : Nat) (xs : List Value) (hown : w.ownsRow base e size v n xs) :
    (Builtin.append_ #[t, t] ty #[v, .slice none 0 c]).run P w = .ok v w := by
  rcases hown.2 with ⟨rfl, rfl⟩ | ⟨g, cap, cur, rfl, _, _, hnc, _⟩
  · simp [Builtin.append_, run_underlying ht, Go.sizeOf, typeInfo, hi, Builtin.lenOf, Builtin.firstCells]
  · simp [Builtin.append_, run_underlying ht, Go.sizeOf, typeInfo, hi, Builtin.lenOf, Builtin.firstCells, hnc, storeCells]
theorem e_appr (st : St w0 M hs w) (i : Nat) {T E size bytes m len c : Nat} {x y : Operand} {v z : Value} {oa : Option Addr} {xs l : List Value} {ti : TypeInfo} (hw : gd L kn g = some true) (hd : okDst n (some d) = true)
    (hx : evO kn x = some v) (hy : evO kn y = some (.slice oa m c)) (hi : nth hs i = some (.own v E size len xs)) (hsrc : RdRowC w oa l)
    (ht : P.underlying T = some (.slice E)) (hinfo : P.info? E = some ti) (hz : ti.zero = some z) (hsize : ti.size = size) (hby : ti.bytes = bytes) (hzs : z.cells.size = size) (hsz : Nat.blt 0 size = true)
    (hl : l.length = m * size) (h1 : ∀ u ∈ l, u.oneCell' = true) (h63 : len + m ≤ maxLen) (hbytes : (len + m) * bytes ≤ 140737488355328) {len' : Nat} {ys : List Value} (hlen' : len + m = len') (hys : xs ++ l = ys)
    (next : ∀ oa cap w', St w0 M (setNth hs i (.own (.slice oa len' cap) E size len' ys)) w' → vN n N ((d, .slice oa len' cap) :: kn) w') :
    vS P n L Q ⟨some d, .call ⟨.builtin .append, #[x, y], #[T, T]⟩, ty, pos, aft, g⟩ N kn w := by
  subst hlen' hys
  have hsz' : 0 < size := by simpa [Nat.blt_eq] using hsz
  have hown0 : w.ownsRow w0.heap.size E size v len xs := st.res hi
  obtain ⟨v', w', hr, hown, hg, hat, ⟨oa', cap, rfl⟩⟩ : ∃ v' w', (Builtin.append_ #[T, T] ty #[v, .slice oa m c]).run P w = .ok v' w' ∧ w'.ownsRow w0.heap.size E size v' (len + m) (xs ++ l) ∧ w.grownBy w' v.ownBlock ∧
      (v'.ownBlock = v.ownBlock ∨ v'.ownBlock = some w.heap.size) ∧ ∃ oa cap, v' = .slice oa (len + m) cap := by
    have hform : ∀ {v' : Value} {w' : World} {k : Nat} {ys : List Value}, w'.ownsRow w0.heap.size E size v' k ys → ∃ oa cap, v' = .slice oa k cap := by
      intro v' w' k ys hown
      rcases hown.2 with ⟨rfl, h0⟩ | ⟨g, cap, cur, rfl, _⟩
      · exact ⟨none, 0, by rw [h0]⟩
      · exact ⟨_, _, rfl⟩
    have key : ∀ a, oa = some a → (∀ k u, l[k]? = some u → w.cell? (a.add k) = some u) → ∃ v' w', (Builtin.append_ #[T, T] ty #[v, .slice oa m c]).run P w = .ok v' w' ∧ w'.ownsRow w0.heap.size E size v' (len + m) (xs ++ l) ∧ w.grownBy w' v.ownBlock ∧
      (v'.ownBlock = v.ownBlock ∨ v'.ownBlock = some w.heap.size) ∧ ∃ oa cap, v' = .slice oa (len + m) cap := by
      rintro a rfl hc
      obtain ⟨v', w', hr, hown, hg, hnil, hat⟩ := run_append_own_at (P := P) w w0.heap.size T ty E ti z size bytes ht hinfo hz hsize hby hzs hsz' v len xs hown0 a m c l hl
        (fun k u hk => hc k u hk) h1 h63 hbytes st.chg.size
      exact ⟨v', w', hr, hown, hg, hat, hform hown⟩
    rcases hsrc with rfl | ⟨a, ha, hc⟩
    · obtain rfl : m = 0 := by
        simp only [List.length_nil] at hl
        rcases Nat.eq_zero_or_pos m with h | h
        · exact h
        · have := Nat.mul_pos h hsz'; omega
      cases oa with
      | none => exact ⟨v, w, run_append_none' w0.heap.size T ty E ti size c ht hinfo v len xs hown0, by simpa using hown0, ⟨rfl, rfl, rfl, Nat.le_refl _, fun _ _ _ => rfl⟩, .inl rfl, hform hown0⟩
      | some a => exact key a rfl (fun k u hk => by simp at hk)
    · exact key a ha hc
  refine e_bi [v, .slice oa m c] hw hd (by simp [hx, hy]) (w' := w') (fun cs => ?_) (next oa' cap w' (st.app hi hg hown hat))
  simp only [builtin, Sem.run_bind, List.toArray, hr]
  rfl
theorem dcs_len (ds : List Dc) : (ds.flatMap dcL).length = ds.length * 3 := by
  induction ds with
  | nil => rfl
  | cons x r ih => rw [List.flatMap_cons, List.length_append, ih]; simp [dcL]; omega
theorem dcs_one (ds : List Dc) : ∀ u ∈ ds.flatMap dcL, u.oneCell' = true := by
  intro u hu
  obtain ⟨x, _, hx⟩ := List.mem_flatMap.1 hu
  simp only [dcL, List.mem_cons, List.not_mem_nil, or_false] at hx
  rcases hx with rfl | rfl | rfl <;> rfl
/-- the owned row at 'i' is done: it is a tree with what hangs on it -/
theorem St.ownNw (st : St w0 M hs w) {i : Nat} {E size len cap : Nat} {oa : Option Addr} {xs : List Value} (hi : nth hs i = some (.own (.slice oa len cap) E size len xs)) : w.ownsRow 0 E size (.slice oa len cap) len xs ∧ Nw w0.heap.size (obk oa) := by
  have h : w.ownsRow w0.heap.size E size (.slice oa len cap) len xs := st.res hi
  refine ⟨owns_mono h (fun b _ => Nat.zero_le _), ?_, fun b hb => (owns_lt h b hb).1⟩
  cases oa <;> simp [obk]
/-- the first 'n' become one -/
theorem St.joinN (st : St w0 M hs w) (n : Nat) {q : Res} (hat : ∀ k ∈ q.at?, ∃ r ∈ hs.take n, k ∈ r.at?) (hq : q.holds w0.heap.size w) : St w0 M (q :: hs.drop n) w := by
  have hnd := st.nodup
  unfold Apart at hnd
  rw [← List.take_append_drop n hs, List.pairwise_append] at hnd
  obtain ⟨h1, h2, h3⟩ := hnd
  refine ⟨st.chg, List.pairwise_cons.2 ⟨fun x hx k hk hk' => ?_, h2⟩, fun x hx => ?_⟩
  · obtain ⟨r, hr, hkr⟩ := hat k hk
    exact h3 r hr x hx k hkr hk'
  · rcases List.mem_cons.1 hx with rfl | h
    · exact hq
    · exact st.here x (List.mem_of_mem_drop h)
/-- what two resources lie at is apart -/
theorem St.ne (st : St w0 M hs w) {i j : Nat} {r s : Res} (hij : i ≠ j) (hi : nth hs i = some r) (hj : nth hs j = some s) : ∀ k ∈ r.at?, k ∉ s.at? := apart_nth st.nodup hij hi hj
end
end Sx


/- The engine, twenty-first part: trees that are written over in their own places. -/
namespace Sx
open Go Go.RowKit
set_option linter.unusedVariables false
set_option linter.unusedSimpArgs false

section
variable {α : Type} {V : World → α → List Value → List Nat → Prop} {w w' : World} {sz : Nat}
end
section
variable {w0 w w' : World} {M : List Nat} {hs : List Res}
variable {P : Program} {n : Fr} {L : List Oper} {Q : Exit → Act → World → Prop} {kn : Kn} {N : Act → World → Prop}
variable {d ty : Nat} {pos : String} {aft : Array Edge} {g : Option (Nat × Bool)}
end
end Sx


/- The engine, twenty-third part: the rows of the language's trees, one of a row written over. -/
namespace Sx
open Go Go.RowKit
set_option linter.unusedVariables false
set_option linter.unusedSimpArgs false
section
variable {tE tS tD tT : Nat} {w w' : World}
/-- what a row's block is: it is there, not frozen, and of the tree -/
structure RowAt (w : World) (b : Nat) (S : List Nat) : Prop where
  mem : b ∈ S
  lt : b < w.heap.size
  fz : ∀ i, w.frozen? ⟨b, i, none⟩ = false
end
/-- a tree falls in two -/
theorem St.split {w0 w : World} {M S T : List Nat} {hs : List Res} {χ φ ψ : World → Prop} (st : St w0 M (.tree (S ++ T) χ :: hs) w) (hn : (S ++ T).Nodup) (h1 : φ w) (h2 : ψ w) (k1 : Sx.Loc S φ) (k2 : Sx.Loc T ψ) : St w0 M (.tree S φ :: .tree T ψ :: hs) w := by
  have h := st.res (i := 0) rfl
  have hnd := List.pairwise_cons.1 st.nodup
  refine ⟨st.chg, List.pairwise_cons.2 ⟨fun x hx => ?_, List.pairwise_cons.2 ⟨fun x hx k hk => hnd.1 x hx k (List.mem_append.2 (.inr hk)), hnd.2⟩⟩, fun x hx => ?_⟩
  · rcases List.mem_cons.1 hx with rfl | hx
    · exact fun k hk hk' => (List.nodup_append.1 hn).2.2 k hk k hk' rfl
    · exact fun k hk => hnd.1 x hx k (List.mem_append.2 (.inl hk))
  · rcases List.mem_cons.1 hx with rfl | hx
    · exact ⟨h1, fun k hk => h.2.1 k (List.mem_append.2 (.inl hk)), k1⟩
    · rcases List.mem_cons.1 hx with rfl | hx
      · exact ⟨h2, fun k hk => h.2.1 k (List.mem_append.2 (.inr hk)), k2⟩
      · exact st.here x (.tail _ hx)
end Sx


/- A map that counts words: its keys in the order of their birth; a range over it. -/
namespace Sx
open Go Go.RowKit
set_option linter.unusedVariables false
set_option linter.unusedSimpArgs false

abbrev Wd := List UInt8
/-- what the entries of such a map are -/
structure Ents (es : List MapEntry) (ks : List Wd) : Prop where
  key : es.map (·.key) = ks.map str
  val : ∀ e ∈ es, ∃ c, e.val = .int .i64 c
  born : ∀ (i : Nat) (e : MapEntry), es[i]? = some e → e.born = i

theorem bytes_beq (s t : Wd) : ((⟨s.toArray⟩ : ByteArray) == ⟨t.toArray⟩) = decide (s = t) := by
  show (s.toArray == t.toArray) = _
  rw [Bool.eq_iff_iff]; simp

section
variable {P : Program} {n : Fr} {L : List Oper} {Q : Exit → Act → World → Prop} {kn : Kn} {w0 w : World} {M : List Nat} {hs : List Res} {N : Act → World → Prop}
variable {d ty : Nat} {pos : String} {aft : Array Edge} {g : Option (Nat × Bool)}

theorem checkKey_str {k : Nat} (hk : P.underlying k = some .string) (em : Bool) (s : Wd) (w : World) : (Instr.checkKey em 10000 k (str s)).run P w = .ok () w := by
  show (Instr.checkKey em (9999 + 1) k (str s)).run P w = _
  unfold Instr.checkKey
  simp [Sem.run_bind, underlying, Sem.run, hk, Result.andThen, str]

theorem findKey_str {k : Nat} (hk : P.underlying k = some .string) {s : Wd} {es : List MapEntry} {r : Option (Nat × Value)} (h : Instr.findNow .string (str s) es 0 = some r) (w : World) : (Instr.findKey k (str s) es).run P w = .ok r w := by
  simp [Instr.findKey, Sem.run_bind, underlying, Sem.run, hk, Result.andThen, h]

theorem setObj_chg {b : Nat} {o o' : Obj} (hb : w.heap[b]? = some o) (hn : ∀ c e f, o ≠ .cells c e f) : (setObj b o').run P w = .ok () (ChangeMaps.setBlock w b o') ∧ Chg [b] w (ChangeMaps.setBlock w b o') ∧ (ChangeMaps.setBlock w b o').heap[b]? = some o' := by
  have hlt := (Array.getElem?_eq_some_iff.1 hb).1
  refine ⟨?_, ⟨rfl, rfl, rfl, by simp [ChangeMaps.setBlock], fun i _ hi => ?_⟩, ?_⟩
  · simp only [setObj, Sem.run, hb, ChangeMaps.setBlock]
    try (cases o <;> first | rfl | exact absurd rfl (hn _ _ _))
  · simp only [ChangeMaps.setBlock]; rw [Array.getElem?_setIfInBounds_ne (fun e => hi (by simp [e]))]
  · simp only [ChangeMaps.setBlock]; rw [Array.getElem?_setIfInBounds_self_of_lt hlt]

/-! ## the range -/
end
end Sx


/- Calls that return or panic; what a caller hands on; a function that defers; a deferred closure that recovers. -/
namespace Sx
open Go Go.RowKit
set_option linter.unusedVariables false
set_option linter.unusedSimpArgs false

/-- the panic of one value, not recovered -/
abbrev pch (v : Value) : List PanicEntry := [{ v := v, recovered := false }]
/-- the call returns, and 'Φ' holds; or it panics with a value, and 'Ψ' holds of it -/
def RetP (P : Program) (f : FuncId) (vals : List Value) (w : World) (Φ Ψ : Value → World → Prop) : Prop :=
  Calls P f vals.toArray w fun e w' => (∃ v, e = .returned v ∧ Φ v w') ∨ ∃ v, e = .panicked (pch v) ∧ Ψ v w'
section
variable {P : Program} {n : Fr} {L : List Oper} {Q : Exit → Act → World → Prop} {kn : Kn} {w w0 : World} {M : List Nat} {hs : List Res} {rest : List Oper}
variable {d ty : Nat} {pos : String} {aft : Array Edge} {g : Option (Nat × Bool)}
variable {N : Act → World → Prop}

/-- what is asked where a callee's panic goes on -/
abbrev PanQ (n : Fr) (Q : Exit → Act → World → Prop) (v : Value) (w : World) : Prop := ∀ a : Act, a.defers = n.2 → Q (.panic (pch v)) a w

theorem e_callp' {o : Oper} {f : FuncId} {vals : List Value} {Φ Ψ : Value → World → Prop} (hw : gd L kn o.guard = some true) (hd : okDst n o.dst = true)
    (hrun : ∀ a, K n kn a → (execOp a.eval o).run P w = .ok (.enter f vals.toArray) w)
    (c : RetP P f vals w Φ Ψ) (pan : ∀ v w', Ψ v w' → PanQ n Q v w') (next : ∀ v w', Φ v w' → vN n N (put o.dst v kn) w') : vS P n L Q o N kn w := by
  intro a ha
  rw [if_pos (ha.gd hw)]
  refine .inl ?_
  unfold Oper.wp
  rw [hrun a ha]
  refine Calls.mono c ?_
  rintro e w' (⟨v, rfl, hv⟩ | ⟨v, rfl, hv⟩)
  · exact next v w' hv _ (ha.put hd v)
  · exact pan v w' hv a ha.defers

theorem e_callp {f : FuncId} {args : Array Operand} {tys : Array TypeId} (vals : List Value) {Φ Ψ : Value → World → Prop} (hw : gd L kn g = some true) (hd : okDst n (some d) = true)
    (hcall : ∀ (az : Array Value) w, (callFunc f az).run P w = .ok (.enter f az) w)
    (hv : args.toList.map (evO kn) = vals.map some)
    (c : RetP P f vals w Φ Ψ) (pan : ∀ v w', Ψ v w' → PanQ n Q v w') (next : ∀ v w', Φ v w' → vN n N ((d, v) :: kn) w') :
    vS P n L Q ⟨some d, .call ⟨.value (.func f), args, tys⟩, ty, pos, aft, g⟩ N kn w :=
  e_callp' (f := f) (vals := vals) hw hd (fun a ha => by
    have hargs := evs_map ha hv
    simp only [execOp, resolve, hargs, Act.eval]
    simp [Deferred.ofValue, invoke, hcall]) c pan next

theorem e_callvp {f : FuncId} {x : Operand} {first captured : List Value} {args : Array Operand} {tys : Array TypeId} (vals : List Value) {Φ Ψ : Value → World → Prop} (hw : gd L kn g = some true) (hd : okDst n (some d) = true)
    (hx : evO kn x = some (.func (.func f) first.toArray captured.toArray))
    (hcall : ∀ (az : Array Value) w, (callFunc f az).run P w = .ok (.enter f az) w)
    (hv : args.toList.map (evO kn) = vals.map some)
    (c : RetP P f (first ++ vals ++ captured) w Φ Ψ) (pan : ∀ v w', Ψ v w' → PanQ n Q v w') (next : ∀ v w', Φ v w' → vN n N ((d, v) :: kn) w') :
    vS P n L Q ⟨some d, .call ⟨.value x, args, tys⟩, ty, pos, aft, g⟩ N kn w :=
  e_callp' (f := f) (vals := first ++ vals ++ captured) hw hd (fun a ha => by
    have hargs := evs_map ha hv
    simp only [execOp, resolve, hargs, ha.ev hx]
    simp [Deferred.ofValue, invoke, hcall]) c pan next

/-- the function's own panic -/
theorem e_panic {o : Oper} {v : Value} (hw : gd L kn o.guard = some true) (hrun : ∀ a, K n kn a → (execOp a.eval o).run P w = .halt (.panic v) w) (pan : PanQ n Q v w) : vS P n L Q o N kn w := by
  intro a ha
  rw [if_pos (ha.gd hw)]
  refine .inl ?_
  unfold Oper.wp
  rw [hrun a ha]
  exact pan a ha.defers
theorem e_panicI {x : Operand} {T : Nat} {v : Value} (hw : gd L kn g = some true) (hx : evO kn x = some (.iface T v)) (pan : PanQ n Q (.iface T v) w) {dst : Option Nat} : vS P n L Q ⟨dst, .panic x, ty, pos, aft, g⟩ N kn w :=
  e_panic hw (fun a ha => by simp only [execOp, ha.ev hx]; simp [Instr.panic, goPanic, Sem.run]; try rfl) pan

theorem retp_of {m : Nat} {f : FuncId} {fn : Func} {c : Code} (vals : List Value) {Φ Ψ : Value → World → Prop} (hf : P.funcs[f]? = some fn) (hb : fn.body = some c) (hn : fn.ntmps = m) (hle : Nat.ble vals.length m = true)
    (h : vcC P (m, []) c (bodyPost P fn fun e w' => (∃ v, e = .returned v ∧ Φ v w') ∨ ∃ v, e = .panicked (pch v) ∧ Ψ v w') (enumKn 0 vals) w) : RetP P f vals w Φ Ψ := vc_enter hf hb hn hle h

theorem y_mki {T : Nat} {x : Operand} {v : Value} {fs : Array Field} (hx : evO kn x = some v) (ht : P.underlying T = some (.struct fs)) : Y P n kn w ⟨some d, .makeInterface T x, ty, pos, aft, g⟩ (.iface T v) := fun a ha => by
  simp only [execOp, ha.ev hx]
  simp [Instr.makeInterface, run_underlying ht]
/-! ### functions that defer -/
/-- 'defer': the call is put ahead of those that wait -/
theorem e_defer {o : Oper} {D : Deferred} {m : Nat} {ds : List Deferred} (hn : n = (m, ds)) (hw : gd L kn o.guard = some true) (hd : o.dst = none)
    (hrun : ∀ a, K n kn a → (execOp a.eval o).run P w = .ok (.defer D) w) (next : vN (m, D :: ds) N kn w) : vS P n L Q o N kn w := by
  subst hn
  intro a ha
  rw [if_pos (ha.gd hw)]
  refine .inl ?_
  unfold Oper.wp
  rw [hrun a ha]
  have h := next { a with defers := D :: a.defers } ⟨by simp [ha.defers], ha.size, fun t v ht => ha.get t v ht⟩
  simpa [Oper.upon, Act.put, hd] using h

theorem vcd_enter {m : Nat} {f : FuncId} {fn : Func} {c : Code} {vals : List Value} {R : Ending → World → Prop} (hf : P.funcs[f]? = some fn) (hb : fn.body = some c) (hn : fn.ntmps = m) (hle : Nat.ble vals.length m = true)
    (h : vcC P (m, []) c (bodyPostD P fn R) (enumKn 0 vals) w) : Calls P f vals.toArray w R := by
  refine calls_of_wp_defers hf hb (h _ ?_)
  have hle' : vals.length ≤ m := by simpa [Nat.ble_eq] using hle
  refine ⟨rfl, ?_, ?_⟩
  · simp only [Array.size_append, List.size_toArray, Array.size_replicate, hn]; omega
  · intro t v ht
    obtain ⟨h1, h2⟩ := find_enumKn vals 0 t v ht
    have hlt : t < vals.length := by
      simp only [Nat.sub_zero] at h2
      exact (List.getElem?_eq_some_iff.1 h2).1
    simp only [Nat.sub_zero] at h2
    rw [Array.getElem?_append_left (by simpa using hlt)]
    simpa using h2

/-- a deferred call that leaves the panic as it is and returns, and 'Φ' holds of the memory behind it -/
def DefIdle (P : Program) (f : FuncId) (args : Array Value) (w : World) (Φ : World → Prop) : Prop :=
  CallsD P f args .returning w fun e u' w' => (∃ v, e = .returned v) ∧ u' = .returning ∧ Φ w'
/-- a deferred call that recovers the panic -/
def DefCatch (P : Program) (f : FuncId) (args : Array Value) (v : Value) (w : World) (Φ : World → Prop) : Prop :=
  CallsD P f args (.panicking (pch v)) w fun e u' w' => (∃ v, e = .returned v) ∧ u' = .panicking [{ v := v, recovered := true }] ∧ Φ w'

/-- leaving with one deferred closure, without a panic -/
theorem vqd_ret {m : Nat} {fn : Func} {R : Ending → World → Prop} {e : Exit} {f : FuncId} {cap : List Value} {Φ : World → Prop} (he : e = .ret ∨ e = .normal)
    (hcall : ∀ (az : Array Value) w, (callFunc f az).run P w = .ok (.enter f az) w)
    (h : DefIdle P f cap.toArray w Φ) (hres : ∀ w', Φ w' → ∃ v, (∀ a, K (m, [⟨.fn (.func f) cap.toArray, #[]⟩]) kn a → (results fn a.tmps).run P w' = .ok v w') ∧ R (.returned v) w') :
    vcQ (m, [⟨.fn (.func f) cap.toArray, #[]⟩]) (bodyPostD P fn R) e kn w := by
  intro a ha
  have key : Leaves P fn a.tmps R a.defers .returning w := by
    rw [ha.defers]
    refine leaves_cons (f := f) (args := cap.toArray) (by simp) (by simp [invoke, hcall]) (h.mono ?_)
    rintro e u' w' ⟨⟨v, rfl⟩, rfl, hΦ⟩
    obtain ⟨r, h1, h2⟩ := hres w' hΦ
    exact ⟨r, h1 a ha, h2⟩
  rcases he with rfl | rfl <;> exact key
/-! ### a map whose entries are known -/
abbrev entF (kvs : List (Wd × Value)) : List MapEntry := kvs.zipIdx.map fun p => { key := str p.1.1, val := p.1.2, born := p.2 }
abbrev mapF (kvs : List (Wd × Value)) : Obj := .map (entF kvs).toArray kvs.length
def getF : List (Wd × Value) → Wd → Option Value
  | [], _ => none
  | (k, v) :: r, s => if s = k then some v else getF r s
theorem findNow_F (s : Wd) : ∀ (kvs : List (Wd × Value)) (j i : Nat), ∃ m, Instr.findNow .string (str s) ((kvs.zipIdx j).map fun p => ({ key := str p.1.1, val := p.1.2, born := p.2 } : MapEntry)) i = some ((getF kvs s).map fun v => (m, v))
  | [], j, i => ⟨0, rfl⟩
  | (k, v) :: r, j, i => by
    by_cases hk : s = k
    · subst hk
      exact ⟨i, by simp [Instr.findNow, Instr.sameNow, bytes_beq, getF]⟩
    · obtain ⟨m, hm⟩ := findNow_F s r (j + 1) (i + 1)
      refine ⟨m, ?_⟩
      simp only [List.zipIdx_cons, List.map_cons, Instr.findNow, Instr.sameNow, bytes_beq, hk, decide_false, getF, if_false]
      exact hm
theorem e_mkF (st : St w0 M hs w) {T : Nat} (hw : gd L kn g = some true) (hd : okDst n (some d) = true)
    (next : ∀ b w', w0.heap.size ≤ b → St w0 M (.blk b (mapF []) :: hs) w' → vN n N ((d, .map (some b)) :: kn) w') : vS P n L Q (⟨some d, .makeMap T none, ty, pos, aft, g⟩) N kn w :=
  e_run (v := .map (some w.heap.size)) (w' := w.alloc (.map #[] 0)) hw hd (fun a ha => by
    simp only [execOp, Option.map_none]; rfl) (next _ _ st.chg.size (st.pushR (Chg.alloc w _) (heap_alloc w _) (by simp [Res.at?])))
theorem e_inF (st : St w0 M hs w) (i : Nat) {T k e b : Nat} {x y z : Operand} {s : Wd} {v : Value} {kvs : List (Wd × Value)} (hw : gd L kn g = some true) (hx : evO kn x = some (.map (some b))) (hy : evO kn y = some (str s)) (hv : evO kn z = some v)
    (hi : nth hs i = some (.blk b (mapF kvs))) (hm : b ∈ M ∨ w0.heap.size ≤ b) (ht : P.underlying T = some (.map k e)) (hk : P.underlying k = some .string) (hno : getF kvs s = none)
    (next : ∀ w', St w0 M (setNth hs i (.blk b (mapF (kvs ++ [(s, v)])))) w' → vN n N kn w') : vS P n L Q (⟨none, .insert T x y z, ty, pos, aft, g⟩) N kn w := by
  have hb : w.heap[b]? = some (mapF kvs) := st.res hi
  obtain ⟨m, hf⟩ := findNow_F s kvs 0 0
  rw [hno] at hf
  simp only [Option.map_none] at hf
  obtain ⟨q1, q2, q3⟩ := setObj_chg (P := P) (o' := mapF (kvs ++ [(s, v)])) hb (by simp)
  have hent : (entF kvs).toArray.push { key := str s, val := v, born := kvs.length } = (entF (kvs ++ [(s, v)])).toArray := by
    simp [entF, List.zipIdx_append]
  refine e_do (w' := ChangeMaps.setBlock w b (mapF (kvs ++ [(s, v)]))) hw rfl (fun a ha => ?_) (next _ (st.turn hi rfl rfl q2 hm q3))
  have hfk := findKey_str (P := P) hk hf w
  have hrun : (Instr.mapUpdate T (.map (some b)) (str s) v).run P w = .ok () (ChangeMaps.setBlock w b (mapF (kvs ++ [(s, v)]))) := by
    have e1 : (kvs ++ [(s, v)]).length = kvs.length + 1 := by simp
    simp only [mapF, ← hent, e1] at q1 ⊢
    simp [Instr.mapUpdate, getObj, Sem.run_bind, underlying, Sem.run, ht, hb, Result.andThen, checkKey_str hk, hfk]
    simpa using q1
  simp only [execOp, ha.ev hx, ha.ev hy, ha.ev hv, Sem.run_bind, hrun, Result.andThen_ok]; rfl
/-- v, ok := m[s] -/
theorem e_lkF (st : St w0 M hs w) (i : Nat) {T k e b : Nat} {x y : Operand} {s : Wd} {z : Value} {kvs : List (Wd × Value)} (hw : gd L kn g = some true) (hd : okDst n (some d) = true) (hx : evO kn x = some (.map (some b))) (hy : evO kn y = some (str s))
    (hi : nth hs i = some (.blk b (mapF kvs))) (ht : P.underlying T = some (.map k e)) (hk : P.underlying k = some .string) (hz : ∀ w, (zeroValue e).run P w = .ok z w)
    (next : vN n N ((d, .tuple [(getF kvs s).getD z, .bool (getF kvs s).isSome].toArray) :: kn) w) : vS P n L Q (⟨some d, .lookup T x y true, ty, pos, aft, g⟩) N kn w := by
  have hb : w.heap[b]? = some (mapF kvs) := st.res hi
  obtain ⟨m, hf⟩ := findNow_F s kvs 0 0
  refine e_run (v := .tuple [(getF kvs s).getD z, .bool (getF kvs s).isSome].toArray) (w' := w) hw hd (fun a ha => ?_) next
  have hfk := findKey_str (P := P) hk hf w
  have hrun : (Instr.lookup T (.map (some b)) (str s) true).run P w = .ok (.tuple [(getF kvs s).getD z, .bool (getF kvs s).isSome].toArray) w := by
    cases hg : getF kvs s with
    | none =>
      rw [hg] at hfk
      simp [Instr.lookup, getObj, Sem.run_bind, underlying, Sem.run, ht, hb, Result.andThen, checkKey_str hk, hfk, hz]
    | some u =>
      rw [hg] at hfk
      simp [Instr.lookup, getObj, Sem.run_bind, underlying, Sem.run, ht, hb, Result.andThen, checkKey_str hk, hfk]
  simp only [execOp, ha.ev hx, ha.ev hy, Sem.run_bind, hrun, Result.andThen_ok]; rfl
end
end Sx


/- What the lexer computes, in plain words: no program in sight. -/
namespace LexS
set_option linter.unusedVariables false

def isLetter (c : UInt8) : Bool := decide (97 ≤ c.toNat ∧ c.toNat ≤ 122 ∨ 65 ≤ c.toNat ∧ c.toNat ≤ 90 ∨ c.toNat = 95)
def isDigit (c : UInt8) : Bool := decide (48 ≤ c.toNat ∧ c.toNat ≤ 57)
def isBlank (c : UInt8) : Bool := decide (c.toNat = 32 ∨ c.toNat = 9 ∨ c.toNat = 10 ∨ c.toNat = 13)
def isIdent (c : UInt8) : Bool := isLetter c || isDigit c
def wShared : List UInt8 := [115, 104, 97, 114, 101, 100]
def wLock : List UInt8 := [108, 111, 99, 107]
def wThread : List UInt8 := [116, 104, 114, 101, 97, 100]
def wLocal : List UInt8 := [108, 111, 99, 97, 108]
def wIf : List UInt8 := [105, 102]
def wElse : List UInt8 := [101, 108, 115, 101]
def wWhile : List UInt8 := [119, 104, 105, 108, 101]
def wPrint : List UInt8 := [112, 114, 105, 110, 116]
def wSkip : List UInt8 := [115, 107, 105, 112]
def wSwap : List UInt8 := [115, 119, 97, 112]
def isWord (l : List UInt8) : Bool := decide (l = wShared ∨ l = wLock ∨ l = wThread ∨ l = wLocal ∨ l = wIf ∨ l = wElse ∨ l = wWhile ∨ l = wPrint ∨ l = wSkip ∨ l = wSwap)
/-- the signs of two bytes -/
def isSign2 (l : List UInt8) : Bool := decide (l = [61, 61] ∨ l = [33, 61] ∨ l = [60, 61] ∨ l = [62, 61] ∨ l = [60, 60] ∨ l = [62, 62])
def signs1 : List UInt8 := [40, 41, 123, 125, 44, 59, 61, 43, 45, 42, 47, 37, 38, 124, 94, 33, 60, 62]
/-- the signs of one byte -/
def isSign1 (l : List UInt8) : Bool := match l with | [c] => signs1.contains c | _ => false
def isSign (l : List UInt8) : Bool := isSign2 l || isSign1 l
def isName (l : List UInt8) : Bool := match l with
  | [] => false
  | c :: _ => decide (l.length ≤ 32) && !isDigit c && !isWord l && l.all isIdent

/-- how many bytes stand ahead of the first LF (or the end) -/
def toLf : List UInt8 → Nat
  | [] => 0
  | c :: r => if c = 10 then 0 else toLf r + 1

def isRem (l : List UInt8) : Bool := match l with | a :: b :: _ => decide (a = 47 ∧ b = 47) | _ => false

/-- how many bytes of blanks and remarks stand ahead -/
def skipF : Nat → List UInt8 → Nat
  | 0, _ => 0
  | _ + 1, [] => 0
  | k + 1, c :: r => if isBlank c then skipF k r + 1 else if isRem (c :: r) then toLf (c :: r) + skipF k ((c :: r).drop (toLf (c :: r))) else 0
def skip (l : List UInt8) : Nat := skipF (l.length + 1) l

theorem toLf_le (l : List UInt8) : toLf l ≤ l.length := by
  induction l with
  | nil => simp [toLf]
  | cons c r ih => simp only [toLf]; split <;> simp <;> omega

theorem toLf_pos {l : List UInt8} (h : isRem l = true) : 0 < toLf l := by
  match l with
  | [] => simp [isRem] at h
  | [_] => simp [isRem] at h
  | a :: b :: r =>
    simp [isRem] at h
    obtain ⟨rfl, rfl⟩ := h
    simp [toLf]

theorem skipF_fuel : ∀ (k j : Nat) (l : List UInt8), l.length < k → l.length < j → skipF k l = skipF j l
  | 0, j, l, h, _ => by omega
  | k + 1, 0, l, _, h => by omega
  | k + 1, j + 1, [], _, _ => rfl
  | k + 1, j + 1, c :: r, h1, h2 => by
    simp only [List.length_cons] at h1 h2
    simp only [skipF]
    split
    · rw [skipF_fuel k j r (by omega) (by omega)]
    · split
      · rename_i hr
        have hp := toLf_pos hr
        have hl : ((c :: r).drop (toLf (c :: r))).length < r.length + 1 := by simp only [List.length_drop, List.length_cons]; omega
        rw [skipF_fuel k j _ (by omega) (by omega)]
      · rfl

theorem skip_nil : skip [] = 0 := rfl
theorem skip_blank {c : UInt8} {r : List UInt8} (h : isBlank c = true) : skip (c :: r) = skip r + 1 := by
  unfold skip
  simp only [List.length_cons, skipF, h, if_true]
theorem skip_rem {l : List UInt8} (h : isRem l = true) : skip l = toLf l + skip (l.drop (toLf l)) := by
  match l, h with
  | [], h => simp [isRem] at h
  | c :: r, h =>
    have hb : isBlank c = false := by
      match r, h with
      | [], h => simp [isRem] at h
      | b :: r, h =>
        simp [isRem] at h
        obtain ⟨rfl, rfl⟩ := h
        decide
    have hp := toLf_pos h
    unfold skip
    simp only [List.length_cons, skipF, hb, h, if_true]
    simp only [Bool.false_eq_true, if_false]
    rw [skipF_fuel (r.length + 1) (((c :: r).drop (toLf (c :: r))).length + 1)]
    · simp only [List.length_drop, List.length_cons]; omega
    · omega
theorem skip_other {c : UInt8} {r : List UInt8} (h : isBlank c = false) (hr : isRem (c :: r) = false) : skip (c :: r) = 0 := by
  unfold skip
  simp only [List.length_cons, skipF, h, hr, Bool.false_eq_true, if_false]

theorem skip_le (l : List UInt8) : skip l ≤ l.length := by
  have key : ∀ n (l : List UInt8), l.length = n → skip l ≤ l.length := by
    intro n
    induction n using Nat.strongRecOn with
    | _ n ih =>
      intro l hl
      match l with
      | [] => simp [skip_nil]
      | c :: r =>
        cases hb : isBlank c with
        | true =>
          rw [skip_blank hb]
          have := ih r.length (by simp at hl; omega) r rfl
          simp; omega
        | false =>
          cases hr : isRem (c :: r) with
          | true =>
            rw [skip_rem hr]
            have hp := toLf_pos hr
            have hle := toLf_le (c :: r)
            have := ih ((c :: r).drop (toLf (c :: r))).length (by simp only [List.length_drop, List.length_cons] at *; omega) _ rfl
            simp only [List.length_drop] at this
            omega
          | false => rw [skip_other hb hr]; simp
  exact key _ l rfl

theorem indexByte_lf (l : List UInt8) : Go.Lib.indexByte l 10 = -1 ∧ toLf l = l.length ∨ Go.Lib.indexByte l 10 = (toLf l : Int) ∧ 0 ≤ Go.Lib.indexByte l 10 := by
  induction l with
  | nil => left; simp [Go.Lib.indexByte, toLf]
  | cons c r ih =>
    simp only [Go.Lib.indexByte, toLf]
    by_cases hc : c = 10
    · subst hc; right; simp
    · have hc' : (c == 10) = false := by simpa using hc
      simp only [hc', hc, if_false, Bool.false_eq_true]
      rcases ih with ⟨h1, h2⟩ | ⟨h1, h2⟩
      · left; simp [h1, h2]
      · right
        have : ¬ (Go.Lib.indexByte r 10 == -1) = true := by simp; omega
        rw [if_neg this, h1]
        constructor
        · omega
        · omega

theorem contains_ib (l : List UInt8) (c : UInt8) : decide (0 ≤ Go.Lib.indexByte l c) = l.contains c := by
  have h : (0 ≤ Go.Lib.indexByte l c) ↔ c ∈ l := by
    induction l with
    | nil => simp [Go.Lib.indexByte]
    | cons b r ih =>
      have hge := Go.Lib.indexByte_ge r c
      simp only [Go.Lib.indexByte]
      by_cases hb : b = c
      · subst hb; simp
      · have hb' : (b == c) = false := by simpa using hb
        simp only [hb', Bool.false_eq_true, if_false, List.mem_cons, Ne.symm hb, false_or, ← ih]
        split
        · rename_i h; simp at h; omega
        · rename_i h; simp at h; omega
  rw [Bool.eq_iff_iff]; simp [h]

/-! ### tokens -/
structure Tok where
  kind : Nat
  text : List UInt8
  word : Nat
  at_ : Nat
  deriving DecidableEq, Repr

def numVal (l : List UInt8) : Nat := l.foldl (fun n c => 10 * n + (c.toNat - 48)) 0

theorem numVal_snoc (l : List UInt8) (c : UInt8) : numVal (l ++ [c]) = 10 * numVal l + (c.toNat - 48) := by simp [numVal]

inductive TokR where
  | tok (t : Tok)
  | bad (rule at_ : Nat)
  deriving DecidableEq, Repr

/-- the token that begins a text that is not empty; 'i': where -/
def tokAt (r : List UInt8) (i : Nat) : TokR := match r with
  | [] => .bad 1 i
  | c :: _ =>
    if isLetter c then
      let t := r.takeWhile isIdent
      if isWord t then .tok ⟨2, t, 0, i⟩ else if 32 < t.length then .bad 2 (i + 32) else .tok ⟨1, t, 0, i⟩
    else if isDigit c then
      let t := r.takeWhile isDigit
      if (1 < t.length ∧ c = 48) ∨ 9223372036854775807 < numVal t then .bad 3 i
      else match r.drop t.length with
        | d :: _ => if isLetter d then .bad 4 (i + t.length) else .tok ⟨3, t, numVal t, i⟩
        | [] => .tok ⟨3, t, numVal t, i⟩
    else if isSign2 (r.take 2) then .tok ⟨4, r.take 2, 0, i⟩
    else if isSign1 [c] then .tok ⟨4, [c], 0, i⟩
    else .bad 1 i

/-- the tokens ahead of the first fault; the fault -/
def scanF : Nat → List UInt8 → Nat → List Tok × Option (Nat × Nat)
  | 0, _, _ => ([], none)
  | k + 1, r, i =>
    match r.drop (skip r) with
    | [] => ([], none)
    | c :: r' => match tokAt (c :: r') (i + skip r) with
      | .bad rule p => ([], some (rule, p))
      | .tok t => ((t :: (scanF k ((c :: r').drop t.text.length) (i + skip r + t.text.length)).1), (scanF k ((c :: r').drop t.text.length) (i + skip r + t.text.length)).2)
def front (s : List UInt8) : List Tok × Option (Nat × Nat) := scanF (s.length + 1) s 0

theorem tok_len {r : List UInt8} {i : Nat} {t : Tok} (h : tokAt r i = .tok t) : 1 ≤ t.text.length ∧ t.text = r.take t.text.length ∧ t.at_ = i := by
  match r, h with
  | [], h => simp [tokAt] at h
  | c :: r, h =>
    have htw : ∀ p : UInt8 → Bool, (c :: r).takeWhile p = (c :: r).take ((c :: r).takeWhile p).length := fun p => by
      have h := List.takeWhile_append_dropWhile (p := p) (l := c :: r)
      have h2 : (c :: r).take ((c :: r).takeWhile p).length = ((c :: r).takeWhile p ++ (c :: r).dropWhile p).take ((c :: r).takeWhile p).length := by rw [h]
      rw [h2, List.take_left']
      rfl
    have hpos : ∀ p : UInt8 → Bool, p c = true → 1 ≤ ((c :: r).takeWhile p).length := fun p hp => by rw [List.takeWhile_cons, if_pos hp]; simp
    have h2 : ∀ l : List UInt8, isSign2 l = true → l.length = 2 := fun l hl => by
      simp only [isSign2, decide_eq_true_eq] at hl
      rcases hl with h | h | h | h | h | h <;> simp [h]
    simp only [tokAt] at h
    split at h
    · rename_i hc
      have hi : isIdent c = true := by simp [isIdent, hc]
      split at h
      · cases h; exact ⟨hpos _ hi, htw _, rfl⟩
      · split at h
        · cases h
        · cases h; exact ⟨hpos _ hi, htw _, rfl⟩
    · split at h
      · rename_i hd
        split at h
        · cases h
        · split at h
          · split at h
            · cases h
            · cases h; exact ⟨hpos _ hd, htw _, rfl⟩
          · cases h; exact ⟨hpos _ hd, htw _, rfl⟩
      · split at h
        · rename_i hs
          cases h
          have hl := h2 _ hs
          exact ⟨by dsimp only; omega, by dsimp only; rw [hl], rfl⟩
        · split at h
          · cases h; exact ⟨by simp, by simp, rfl⟩
          · cases h

theorem scanF_fuel : ∀ (k j : Nat) (r : List UInt8) (i : Nat), r.length < k → r.length < j → scanF k r i = scanF j r i
  | 0, _, _, _, h, _ => by omega
  | _ + 1, 0, _, _, _, h => by omega
  | k + 1, j + 1, r, i, h1, h2 => by
    simp only [scanF]
    cases hd : r.drop (skip r) with
    | nil => rfl
    | cons c r' =>
      have hl : (c :: r').length ≤ r.length := by rw [← hd]; simp
      cases ht : tokAt (c :: r') (i + skip r) with
      | bad rule p => simp only [ht]
      | tok t =>
        have h3 := (tok_len ht).1
        have h4 : 1 ≤ (c :: r').length := by simp
        have e := scanF_fuel k j ((c :: r').drop t.text.length) (i + skip r + t.text.length) (by simp only [List.length_drop]; omega) (by simp only [List.length_drop]; omega)
        simp only [ht, e]

def scanA (r : List UInt8) (i : Nat) : List Tok × Option (Nat × Nat) := scanF (r.length + 1) r i
theorem front_eq (s : List UInt8) : front s = scanA s 0 := rfl
theorem scanA_end {r : List UInt8} {i : Nat} (h : r.length ≤ skip r) : scanA r i = ([], none) := by
  simp only [scanA, scanF]
  rw [List.drop_eq_nil_of_le h]
theorem scanA_bad {r : List UInt8} {i rule p : Nat} (h : skip r < r.length) (hb : tokAt (r.drop (skip r)) (i + skip r) = .bad rule p) : scanA r i = ([], some (rule, p)) := by
  simp only [scanA, scanF]
  cases hd : r.drop (skip r) with
  | nil => have := congrArg List.length hd; simp at this; omega
  | cons c r' => rw [hd] at hb; simp only [hb]
theorem scanA_tok {r : List UInt8} {i : Nat} {t : Tok} (h : skip r < r.length) (hb : tokAt (r.drop (skip r)) (i + skip r) = .tok t) :
    scanA r i = (t :: (scanA (r.drop (skip r + t.text.length)) (i + skip r + t.text.length)).1, (scanA (r.drop (skip r + t.text.length)) (i + skip r + t.text.length)).2) := by
  have h3 := (tok_len hb).1
  have e : scanA (r.drop (skip r + t.text.length)) (i + skip r + t.text.length) = scanF r.length (r.drop (skip r + t.text.length)) (i + skip r + t.text.length) :=
    scanF_fuel _ _ _ _ (by omega) (by simp only [List.length_drop]; omega)
  rw [e]
  simp only [scanA, scanF]
  cases hd : r.drop (skip r) with
  | nil => have := congrArg List.length hd; simp at this; omega
  | cons c r' =>
    rw [hd] at hb
    simp only [hb]
    rw [← hd, List.drop_drop]

/-- Scan's answer: tokens, error, place, rule -/
def scanRes (s : List UInt8) : List Tok × Nat × Nat × Nat :=
  if 65536 < s.length then ([], 4, 0, 0) else match (front s).2 with
    | none => ((front s).1, 0, 0, 0)
    | some (rule, p) => ([], 20, p, rule)
end LexS


/- Blanks and remarks between tokens: no program in sight. -/
namespace LexS
set_option linter.unusedVariables false
set_option linter.unusedSimpArgs false

end LexS


/- Tokens, their places left out: no program in sight. -/
namespace LexS
set_option linter.unusedVariables false
set_option linter.unusedSimpArgs false
theorem scan_inv {r : List UInt8} {i : Nat} {t : Tok} {T : List Tok} {f : Option (Nat × Nat)} (h : scanA r i = (t :: T, f)) :
    skip r < r.length ∧ tokAt (r.drop (skip r)) (i + skip r) = .tok t ∧ scanA (r.drop (skip r + t.text.length)) (i + skip r + t.text.length) = (T, f) := by
  rcases Nat.lt_or_ge (skip r) r.length with hk | hk
  · cases hx : tokAt (r.drop (skip r)) (i + skip r) with
    | bad rule q => rw [scanA_bad hk hx] at h; simp at h
    | tok x =>
      rw [scanA_tok hk hx] at h
      simp only [Prod.mk.injEq, List.cons.injEq] at h
      obtain ⟨⟨rfl, h1⟩, h2⟩ := h
      exact ⟨hk, rfl, Prod.ext h1 h2⟩
  · rw [scanA_end hk] at h; simp at h
end LexS


/- Plain laws on tokens that are told: which are right, and that printed they are cut again. -/
namespace LexS
/-- the document's answer for a number's digits -/
def numV (l : List UInt8) : Option Nat := if l = [] ∨ (1 < l.length ∧ l.getD 0 0 = 48) ∨ l.all isDigit = false ∨ 9223372036854775807 < numVal l then none else some (numVal l)
/-- a token is right: cut alone it is itself -/
def rgtB (t : List UInt8) (k w : Int) : Bool := match tokAt t 0 with | .tok x => decide (x.text = t ∧ (x.kind : Int) = k ∧ (x.word : Int) = w) | .bad _ _ => false
/-- the document's word for it -/
def docRight (t : List UInt8) (k w : Int) : Bool :=
  (decide (k = 1) && isName t && decide (w = 0)) || (decide (k = 2) && isWord t && decide (w = 0)) || (decide (k = 3) && decide ((numV t).map (fun n : Nat => (n : Int)) = some w)) || (decide (k = 4) && isSign t && decide (w = 0))

theorem tw_self {p : UInt8 → Bool} : ∀ {l : List UInt8}, l.all p = true → l.takeWhile p = l
  | [], _ => rfl
  | c :: l, h => by
    simp only [List.all_cons, Bool.and_eq_true] at h
    rw [List.takeWhile_cons, if_pos h.1, tw_self h.2]
theorem tw_all (p : UInt8 → Bool) : ∀ (l : List UInt8), (l.takeWhile p).all p = true
  | [] => rfl
  | c :: l => by
    rw [List.takeWhile_cons]
    split
    · rename_i h; simp [h, tw_all p l]
    · rfl
theorem digit_not_letter {c : UInt8} (h : isDigit c = true) : isLetter c = false := by
  simp only [isDigit, isLetter, decide_eq_true_eq, decide_eq_false_iff_not] at *; omega
theorem word_tok {t : List UInt8} (h : isWord t = true) : tokAt t 0 = .tok ⟨2, t, 0, 0⟩ := by
  simp only [isWord, decide_eq_true_eq] at h
  rcases h with h | h | h | h | h | h | h | h | h | h <;> subst h <;> decide
theorem sign_tok {t : List UInt8} (h : isSign t = true) : tokAt t 0 = .tok ⟨4, t, 0, 0⟩ := by
  simp only [isSign, Bool.or_eq_true] at h
  rcases h with h | h
  · simp only [isSign2, decide_eq_true_eq] at h
    rcases h with h | h | h | h | h | h <;> subst h <;> decide
  · match t, h with
    | [], h => simp [isSign1] at h
    | _ :: _ :: _, h => simp [isSign1] at h
    | [c], h =>
      simp only [isSign1, signs1, List.contains_iff_mem, List.mem_cons, List.not_mem_nil, or_false] at h
      rcases h with h | h | h | h | h | h | h | h | h | h | h | h | h | h | h | h | h | h <;> subst h <;> decide
theorem name_tok {t : List UInt8} (h : isName t = true) : tokAt t 0 = .tok ⟨1, t, 0, 0⟩ := by
  match t, h with
  | [], h => simp [isName] at h
  | c :: r, h =>
    simp only [isName, Bool.and_eq_true, decide_eq_true_eq, Bool.not_eq_true'] at h
    obtain ⟨⟨⟨h1, h2⟩, h3⟩, h4⟩ := h
    have hc : isLetter c = true := by
      have := h4
      simp only [List.all_cons, Bool.and_eq_true, isIdent, Bool.or_eq_true, h2, Bool.false_eq_true, or_false] at this
      exact this.1
    simp only [tokAt, hc, if_true, tw_self h4, h3, Bool.false_eq_true, if_false]
    rw [if_neg (by omega)]
theorem num_tok {t : List UInt8} {n : Nat} (h : numV t = some n) : tokAt t 0 = .tok ⟨3, t, n, 0⟩ := by
  unfold numV at h
  split at h
  · cases h
  · rename_i hn
    cases h
    simp only [not_or, Bool.not_eq_false] at hn
    obtain ⟨h1, h2, h3, h4⟩ := hn
    match t, h1 with
    | c :: r, _ =>
      have hd : isDigit c = true := by simp only [List.all_cons, Bool.and_eq_true] at h3; exact h3.1
      simp only [tokAt, digit_not_letter hd, hd, Bool.false_eq_true, if_false, if_true, tw_self h3]
      rw [if_neg (by rintro (h | h); exact h2 ⟨h.1, by simpa using h.2⟩; omega)]
      simp
/-- a token that is cut is right -/
theorem tok_right {r : List UInt8} {i : Nat} {x : Tok} (h : tokAt r i = .tok x) : (x.kind = 1 ∧ isName x.text = true ∧ x.word = 0) ∨ (x.kind = 2 ∧ isWord x.text = true ∧ x.word = 0) ∨ (x.kind = 3 ∧ numV x.text = some x.word) ∨ (x.kind = 4 ∧ isSign x.text = true ∧ x.word = 0) := by
  match r, h with
  | [], h => simp [tokAt] at h
  | c :: r, h =>
    simp only [tokAt] at h
    split at h
    · rename_i hc
      split at h
      · rename_i hw; cases h; exact .inr (.inl ⟨rfl, hw, rfl⟩)
      · rename_i hw
        split at h
        · cases h
        · rename_i hl
          cases h
          refine .inl ⟨rfl, ?_, rfl⟩
          have hi : isIdent c = true := by simp [isIdent, hc]
          have ha := tw_all isIdent (c :: r)
          have hnd : isDigit c = false := by
            simp only [isDigit, isLetter, decide_eq_true_eq, decide_eq_false_iff_not] at *; omega
          rw [List.takeWhile_cons, if_pos hi] at hw hl ha ⊢
          simp only [isName, hnd, ha, Bool.not_eq_true] at *
          simp only [hw]
          simp at hl ⊢
          omega
    · split at h
      · rename_i hc hd
        split at h
        · cases h
        · rename_i hn
          have key : numV ((c :: r).takeWhile isDigit) = some (numVal ((c :: r).takeWhile isDigit)) := by
            unfold numV
            rw [if_neg]
            have ha := tw_all isDigit (c :: r)
            rw [List.takeWhile_cons, if_pos hd] at hn ha ⊢
            rintro (h | h | h | h)
            · cases h
            · exact hn (.inl ⟨h.1, by simpa using h.2⟩)
            · rw [ha] at h; cases h
            · exact hn (.inr h)
          split at h
          · split at h
            · cases h
            · cases h; exact .inr (.inr (.inl ⟨rfl, key⟩))
          · cases h; exact .inr (.inr (.inl ⟨rfl, key⟩))
      · split at h
        · rename_i hs
          cases h; exact .inr (.inr (.inr ⟨rfl, by show isSign _ = true; unfold isSign; rw [hs]; rfl, rfl⟩))
        · split at h
          · rename_i hs
            cases h; exact .inr (.inr (.inr ⟨rfl, by simp [isSign, hs], rfl⟩))
          · cases h
theorem rgt_doc (t : List UInt8) (k w : Int) : rgtB t k w = docRight t k w := by
  rw [Bool.eq_iff_iff]
  constructor
  · intro h
    unfold rgtB at h
    split at h
    · rename_i x hx
      simp only [decide_eq_true_eq] at h
      obtain ⟨h1, rfl, rfl⟩ := h
      have := tok_right hx
      rw [h1] at this
      unfold docRight
      rcases this with ⟨a, b, c⟩ | ⟨a, b, c⟩ | ⟨a, b⟩ | ⟨a, b, c⟩ <;> simp [a, b] <;> (try simp [c])
    · cases h
  · intro h
    unfold docRight at h
    simp only [Bool.or_eq_true, Bool.and_eq_true, decide_eq_true_eq] at h
    unfold rgtB
    rcases h with ((⟨⟨rfl, h⟩, rfl⟩ | ⟨⟨rfl, h⟩, rfl⟩) | ⟨rfl, h⟩) | ⟨⟨rfl, h⟩, rfl⟩
    · rw [name_tok h]; simp
    · rw [word_tok h]; simp
    · cases hn : numV t with
      | none => rw [hn] at h; cases h
      | some n => rw [hn] at h; simp at h; subst h; rw [num_tok hn]; simp
    · rw [sign_tok h]; simp
theorem rgt_of {r : List UInt8} {i : Nat} {x : Tok} (h : tokAt r i = .tok x) : rgtB x.text x.kind x.word = true := by
  rw [rgt_doc]
  unfold docRight
  rcases tok_right h with ⟨a, b, c⟩ | ⟨a, b, c⟩ | ⟨a, b⟩ | ⟨a, b, c⟩ <;> simp [a, b] <;> (try simp [c])
theorem scan_right : ∀ (T : List Tok) (r : List UInt8) (i : Nat) (f : Option (Nat × Nat)), scanA r i = (T, f) → ∀ x ∈ T, rgtB x.text x.kind x.word = true
  | [], r, i, f, h, x, hx => by simp at hx
  | t :: T, r, i, f, h, x, hx => by
    obtain ⟨h1, h2, h3⟩ := scan_inv h
    rcases List.mem_cons.1 hx with rfl | hx
    · exact rgt_of h2
    · exact scan_right T _ _ _ h3 x hx
end LexS


/- Plain laws on numbers as texts: they are cut as one number. -/
namespace LexS
end LexS


/- The operators, their signs and levels: no program in sight. -/
namespace LexS
set_option linter.unusedVariables false
set_option linter.unusedSimpArgs false
/-- the operators' signs and levels -/
def sgnT : List (List UInt8 × Int) := [([], 0), ([43], 7), ([45], 7), ([42], 8), ([47], 8), ([37], 8), ([38], 3), ([124], 1), ([94], 2), ([60, 60], 6), ([62, 62], 6), ([61, 61], 4), ([33, 61], 4), ([60], 5), ([60, 61], 5), ([62], 5), ([62, 61], 5), ([45], 9), ([33], 9)]
def sgn (k : Nat) : List UInt8 := (sgnT.getD k ([], 0)).1
def lvl (k : Nat) : Int := (sgnT.getD k ([], 0)).2
def knownOp (k : Int) : Bool := decide (0 < k ∧ k < 19)
def twoOp (k : Int) : Bool := decide (0 < k ∧ k < 17)
def lvlO (k : Int) : Int := if knownOp k = true then lvl k.toNat else 0
def oneOp (k : Int) : Bool := decide (k = 17 ∨ k = 18)
/-- the operator of two with a sign -/
def findO (s : List UInt8) : Option Nat := (List.range 19).find? fun k => twoOp (k : Int) && decide (sgn k = s)
end LexS


/- What the parser computes, in plain words: no program in sight. -/
namespace ParS
open Sx LexS
set_option linter.unusedVariables false

/-- a rule that a text breaks, and where: (place, rule) -/
abbrev Flt := Nat × Nat
abbrev PR (α : Type) := Except Flt (α × List Tok)
def tok0 : Tok := ⟨0, [], 0, 0⟩
def here (ts : List Tok) : Tok := match ts with | t :: _ => t | [] => tok0
/-- the place of what stands here; 'e': the text's length -/
def atT (e : Nat) (ts : List Tok) : Nat := match ts with | t :: _ => t.at_ | [] => e
def isT (s : List UInt8) (ts : List Tok) : Bool := decide ((here ts).text = s) && (decide ((here ts).kind = 2) || decide ((here ts).kind = 4))
def fail {α : Type} (e rule : Nat) (ts : List Tok) : Except Flt α := .error (atT e ts, rule)
def want (e : Nat) (s : List UInt8) (ts : List Tok) : Except Flt (List Tok) := if isT s ts = true then .ok ts.tail else fail e 2 ts
def nameP (e : Nat) (ts : List Tok) : PR Tok := if (here ts).kind = 1 then .ok (here ts, ts.tail) else fail e 2 ts
def declP (e : Nat) (ts : List Tok) : PR Dc := match nameP e ts with
  | .error f => .error f
  | .ok (t, r) => .ok (⟨t.text, 0, (t.at_ : Int)⟩, r)
/-- a number behind a sign, or not -/
def wordP (e : Nat) (minus : Bool) (ts : List Tok) : PR Int := if (here ts).kind = 3 then .ok (if minus = true then -((here ts).word : Int) else ((here ts).word : Int), ts.tail) else fail e 2 ts
def initP (e : Nat) (ts : List Tok) : PR Dc := match nameP e ts with
  | .error f => .error f
  | .ok (t, r) => if isT [61] r = true then
      (match wordP e (isT [45] r.tail) (if isT [45] r.tail = true then r.tail.tail else r.tail) with
        | .error f => .error f
        | .ok (x, r') => .ok (⟨t.text, x, (t.at_ : Int)⟩, r'))
    else .ok (⟨t.text, 0, (t.at_ : Int)⟩, r)
/-- one or more, with commas between and a ; behind -/
def listP (e : Nat) (one : List Tok → PR Dc) : Nat → List Tok → PR (List Dc)
  | 0, ts => .error (0, 0)
  | n + 1, ts => match one ts with
    | .error f => .error f
    | .ok (d, r) => if isT [44] r = true then (match listP e one n r.tail with
        | .error f => .error f
        | .ok (l, r') => .ok (d :: l, r'))
      else match want e [59] r with
        | .error f => .error f
        | .ok r' => .ok ([d], r')

/-! ### expressions -/
/-- an operator of two that stands here -/
def opT (t : Tok) : Option Nat := if t.kind = 4 then findO t.text else none
/-- operators and what stands behind them -/
def flatE (u : List Tok → PR Ex) : Nat → List Tok → PR (List (Nat × Nat × Ex))
  | 0, ts => .error (0, 0)
  | n + 1, ts => match opT (here ts) with
    | none => .ok ([], ts)
    | some op => match u ts.tail with
      | .error f => .error f
      | .ok (x, r) => match flatE u n r with
        | .error f => .error f
        | .ok (l, r') => .ok ((op, (here ts).at_, x) :: l, r')
def binE (op a : Nat) (x y : Ex) : Ex := .mk 4 (op : Int) 0 [] [x, y] (a : Int)
abbrev Pend := Nat × Nat × Ex
/-- operators that wait and bind as strongly take their second side -/
def redu (all : Bool) (lv : Int) : List Pend → Ex → List Pend × Ex
  | [], x => ([], x)
  | (op, a, l) :: w, x => if all = true ∨ lv ≤ lvlO (op : Int) then redu all lv w (binE op a l x) else ((op, a, l) :: w, x)
def shunt : List Pend → List Pend → Ex → Ex
  | [], w, x => (redu true 0 w x).2
  | (op, a, y) :: r, w, x => shunt r ((op, a, (redu false (lvlO (op : Int)) w x).2) :: (redu false (lvlO (op : Int)) w x).1) y
def exprW (u : List Tok → PR Ex) (ts : List Tok) : PR Ex := match u ts with
  | .error f => .error f
  | .ok (x, r) => match flatE u (r.length + 1) r with
    | .error f => .error f
    | .ok (l, r') => .ok (shunt l [] x, r')
def leafP (e : Nat) (ts : List Tok) : PR Ex :=
  if (here ts).kind = 3 then .ok (.mk 1 0 ((here ts).word : Int) [] [] ((here ts).at_ : Int), ts.tail)
  else if (here ts).kind = 1 then .ok (.mk 2 0 0 (here ts).text [] ((here ts).at_ : Int), ts.tail)
  else fail e 2 ts
def innerT (ts : List Tok) : Bool := isT [45] ts || isT [33] ts || isT [40] ts
/-- 'm': how much deeper it may lie -/
def unaryP (e : Nat) : Nat → List Tok → PR Ex
  | 0, ts => if innerT ts = true then fail e 3 ts else leafP e ts
  | m + 1, ts => if innerT ts = true then
      (if (here ts).text = [40] then (match exprW (unaryP e m) ts.tail with
        | .error f => .error f
        | .ok (x, r) => match want e [41] r with
          | .error f => .error f
          | .ok r' => .ok (x, r'))
      else match unaryP e m ts.tail with
        | .error f => .error f
        | .ok (x, r) => .ok (.mk 3 (if (here ts).text = [33] then 18 else 17) 0 [] [x] ((here ts).at_ : Int), r))
    else leafP e ts
def exprP (e m : Nat) (ts : List Tok) : PR Ex := exprW (unaryP e m) ts

/-! ### statements -/
def condP (e : Nat) (ts : List Tok) : PR Ex := match want e [40] ts with
  | .error f => .error f
  | .ok r => match exprP e 64 r with
    | .error f => .error f
    | .ok (x, r1) => match want e [41] r1 with
      | .error f => .error f
      | .ok r2 => .ok (x, r2)
def exprSemi (e : Nat) (ts : List Tok) : PR Ex := match exprP e 64 ts with
  | .error f => .error f
  | .ok (x, r) => match want e [59] r with
    | .error f => .error f
    | .ok r' => .ok (x, r')
/-- what a swap's parentheses hold, and the ; -/
def swapP (e : Nat) (ts : List Tok) : PR (List UInt8 × Ex) := match want e [40] ts with
  | .error f => .error f
  | .ok r => match nameP e r with
    | .error f => .error f
    | .ok (t, r1) => match want e [44] r1 with
      | .error f => .error f
      | .ok r2 => match exprP e 64 r2 with
        | .error f => .error f
        | .ok (x, r3) => match want e [41] r3 with
          | .error f => .error f
          | .ok r4 => match want e [59] r4 with
            | .error f => .error f
            | .ok r5 => .ok ((t.text, x), r5)
def assignP (e : Nat) (a : Nat) (ts : List Tok) : PR Sm := match nameP e ts with
  | .error f => .error f
  | .ok (t, r) => match want e [61] r with
    | .error f => .error f
    | .ok r1 => if isT wSwap r1 = true then (match swapP e r1.tail with
        | .error f => .error f
        | .ok ((o, x), r2) => .ok (.mk 2 t.text o [x] [] [] (a : Int), r2))
      else match exprSemi e r1 with
        | .error f => .error f
        | .ok (x, r2) => .ok (.mk 1 t.text [] [x] [] [] (a : Int), r2)
/-- a word that a statement begins with -/
def formT (t : Tok) (s : List UInt8) : Bool := decide (t.text = s) && decide (t.kind = 2)
/-- a statement; 'blk': a block within -/
def stmtW (e : Nat) (blk : List Tok → PR (List Sm)) (ts : List Tok) : PR Sm :=
  if formT (here ts) wIf = true then (match condP e ts.tail with
    | .error f => .error f
    | .ok (x, r) => match blk r with
      | .error f => .error f
      | .ok (b, r1) => if isT wElse r1 = true then (match blk r1.tail with
          | .error f => .error f
          | .ok (l, r2) => .ok (.mk 3 [] [] [x] b l (atT e ts : Int), r2))
        else .ok (.mk 3 [] [] [x] b [] (atT e ts : Int), r1))
  else if formT (here ts) wWhile = true then (match condP e ts.tail with
    | .error f => .error f
    | .ok (x, r) => match blk r with
      | .error f => .error f
      | .ok (b, r1) => .ok (.mk 4 [] [] [x] b [] (atT e ts : Int), r1))
  else if formT (here ts) wLock = true then (match nameP e ts.tail with
    | .error f => .error f
    | .ok (t, r) => match blk r with
      | .error f => .error f
      | .ok (b, r1) => .ok (.mk 5 t.text [] [] b [] (atT e ts : Int), r1))
  else if formT (here ts) wPrint = true then (match exprSemi e ts.tail with
    | .error f => .error f
    | .ok (x, r) => .ok (.mk 6 [] [] [x] [] [] (atT e ts : Int), r))
  else if formT (here ts) wSkip = true then (match want e [59] ts.tail with
    | .error f => .error f
    | .ok r => .ok (.mk 7 [] [] [] [] [] (atT e ts : Int), r))
  else assignP e (atT e ts) ts
/-- statements up to the } , which is gone over -/
def restW (st : List Tok → PR Sm) : Nat → List Tok → PR (List Sm)
  | 0, ts => .error (0, 0)
  | n + 1, ts => if isT [125] ts = true then .ok ([], ts.tail) else match st ts with
    | .error f => .error f
    | .ok (s, r) => match restW st n r with
      | .error f => .error f
      | .ok (l, r') => .ok (s :: l, r')
/-- 'm': how much deeper blocks may lie -/
def stmtP (e : Nat) : Nat → List Tok → PR Sm
  | 0, ts => stmtW e (fun r => if isT [123] r = true then fail e 3 r else fail e 2 r) ts
  | m + 1, ts => stmtW e (fun r => match want e [123] r with
    | .error f => .error f
    | .ok r1 => restW (stmtP e m) (r1.length + 1) r1) ts
def restP (e m : Nat) (ts : List Tok) : PR (List Sm) := restW (stmtP e m) (ts.length + 1) ts

/-! ### programs -/
def localsP (e : Nat) : Nat → List Tok → PR (List Dc)
  | 0, ts => .error (0, 0)
  | n + 1, ts => if isT wLocal ts = true then (match listP e (declP e) (ts.length + 1) ts.tail with
      | .error f => .error f
      | .ok (l, r) => match localsP e n r with
        | .error f => .error f
        | .ok (l', r') => .ok (l ++ l', r'))
    else .ok ([], ts)
def threadP (e : Nat) (ts : List Tok) : PR Th := match nameP e ts with
  | .error f => .error f
  | .ok (t, r) => match want e [123] r with
    | .error f => .error f
    | .ok r1 => match localsP e (r1.length + 1) r1 with
      | .error f => .error f
      | .ok (l, r2) => match restP e 63 r2 with
        | .error f => .error f
        | .ok (b, r3) => .ok (⟨t.text, l, b, (t.at_ : Int)⟩, r3)
def threadsP (e : Nat) : Nat → List Tok → PR (List Th)
  | 0, ts => .error (0, 0)
  | n + 1, ts => if isT wThread ts = true then (match threadP e ts.tail with
      | .error f => .error f
      | .ok (t, r) => match threadsP e n r with
        | .error f => .error f
        | .ok (l, r') => .ok (t :: l, r'))
    else .ok ([], ts)
def progP (e : Nat) : Nat → List Tok → Except Flt Pg
  | 0, ts => .error (0, 0)
  | n + 1, ts => if isT wShared ts = true then (match listP e (initP e) (ts.length + 1) ts.tail with
      | .error f => .error f
      | .ok (l, r) => match progP e n r with
        | .error f => .error f
        | .ok p => .ok ⟨l ++ p.shared, p.locks, p.threads⟩)
    else if isT wLock ts = true then (match listP e (declP e) (ts.length + 1) ts.tail with
      | .error f => .error f
      | .ok (l, r) => match progP e n r with
        | .error f => .error f
        | .ok p => .ok ⟨p.shared, l ++ p.locks, p.threads⟩)
    else match threadsP e (ts.length + 1) ts with
      | .error f => .error f
      | .ok (l, r) => if r.length = 0 then .ok ⟨[], [], l⟩ else fail e 2 r
/-- Parse's answer: a program, an error, a place, a rule -/
def pg0 : Pg := ⟨[], [], []⟩
def parseRes (s : List UInt8) : Pg × Nat × Nat × Nat :=
  if 65536 < s.length then (pg0, 4, 0, 0) else match (front s).2 with
    | some (rule, p) => (pg0, 30, p, 1)
    | none => match progP s.length ((front s).1.length + 1) (front s).1 with
      | .error f => (pg0, 30, f.1, f.2)
      | .ok p => (p, 0, 0, 0)
end ParS


/- What the parser computes, more: wanted words one after another; rests are rests of the tokens. -/
namespace ParS
open Sx LexS
set_option linter.unusedVariables false
set_option linter.unusedSimpArgs false

/-- words that must stand here, one behind the other -/
def wantL (e : Nat) : List (List UInt8) → List Tok → Except Flt (List Tok)
  | [], ts => .ok ts
  | s :: l, ts => match want e s ts with
    | .error f => .error f
    | .ok r => wantL e l r
theorem wantL_one (e : Nat) (s : List UInt8) (ts : List Tok) : wantL e [s] ts = want e s ts := by
  simp only [wantL]; split <;> simp_all
theorem isT_ne {s : List UInt8} {r : List Tok} (h : isT s r = true) : r ≠ [] := by
  rintro rfl; simp [isT, here, tok0] at h
theorem kind_ne {k : Nat} {r : List Tok} (h : (here r).kind = k) (hk : k ≠ 0) : r ≠ [] := by
  rintro rfl; exact hk h.symm
theorem inner_ne {r : List Tok} (h : innerT r = true) : r ≠ [] := by rintro rfl; simp [innerT, isT, here, tok0] at h
theorem tail_lt {r : List Tok} (h : r ≠ []) : r.tail.length < r.length := by
  cases r with
  | nil => exact absurd rfl h
  | cons x l => simp
theorem want_ok {e : Nat} {s : List UInt8} {ts r : List Tok} (h : want e s ts = .ok r) : isT s ts = true ∧ r = ts.tail := by
  unfold want at h; split at h
  · rename_i hc; cases h; exact ⟨hc, rfl⟩
  · cases h
theorem want_pos {e : Nat} {s : List UInt8} {ts : List Tok} (h : isT s ts = true) : want e s ts = .ok ts.tail := by unfold want; rw [if_pos h]
theorem want_neg {e : Nat} {s : List UInt8} {ts : List Tok} (h : isT s ts = false) : want e s ts = .error (atT e ts, 2) := by unfold want; rw [if_neg (by simp [h])]; rfl
end ParS


/- A parser in memory: its tokens, its place; what its functions hand back, and how they fail. -/
namespace Sx
open Go Go.RowKit LexS ParS
set_option linter.unusedVariables false
set_option linter.unusedSimpArgs false

abbrev tkL (t : Tok) : List Value := [.int .u8 (t.kind : Int), str t.text, .int .i64 (t.word : Int), .int .i64 (t.at_ : Int)]
abbrev exC (e : Ex) (oa : Option Addr) (cap : Nat) : List Value := [.int .u8 e.k, .int .u8 e.op, .int .i64 e.wd, str e.nm, .slice oa e.kids.length cap, .int .i64 e.a]
abbrev smC (s : Sm) (oe ob ol : Option Addr) (ce cb cl : Nat) : List Value := [.int .u8 s.k, str s.nm, str s.other, .slice oe s.e.length ce, .slice ob s.body.length cb, .slice ol s.els.length cl, .int .i64 s.a]
abbrev thC (t : Th) (ol ob : Option Addr) (cl cb : Nat) : List Value := [str t.nm, .slice ol t.locals.length cl, .slice ob t.body.length cb, .int .i64 t.a]
abbrev pgC (p : Pg) (os ol ot : Option Addr) (cs cl ct : Nat) : List Value := [.slice os p.shared.length cs, .slice ol p.locks.length cl, .slice ot p.threads.length ct]

/-- the operators' signs and levels, in the block of a variable -/
def SigAt (g : Nat) (w : World) : Prop := ∀ k, k < 19 → w.cell? ⟨g, k * 2, none⟩ = some (str (sgn k)) ∧ w.cell? ⟨g, k * 2 + 1, none⟩ = some (.int .i64 (lvl k))
theorem SigAt.kept {g : Nat} {M : List Nat} {w w' : World} (h : SigAt g w) (c : Chg M w w') (hg : g ∉ M) : SigAt g w' := fun k hk => ⟨c.cell (h k hk).1 hg, c.cell (h k hk).2 hg⟩

/-- what stays as long as a parser goes: 'pb' its block; 'n0': older blocks stay; 'T' the parser's type, 'R' the refusal's; 'g' the signs' block -/
structure PCtx where
  pb : Nat
  n0 : Nat
  oa : Option Addr
  cap : Nat
  ts : List Tok
  e : Nat
  T : Nat
  R : Nat
  g : Nat
/-- the parser's cells: its tokens, its place, the text's end; 'r' is what is left -/
abbrev pcell (c : PCtx) (r : List Tok) : List Value := [.slice c.oa c.ts.length c.cap, .int .i64 ((c.ts.length - r.length : Nat) : Int), .int .i64 (c.e : Int)]
abbrev PAt (c : PCtx) (r : List Tok) (w : World) : Prop := w.heap[c.pb]? = some (.cells (pcell c r).toArray c.T (0, 0))
/-- a refusal, as a panic's value -/
abbrev refV (c : PCtx) (f : Flt) : Value := .iface c.R (.agg #[.int .i64 (f.1 : Int), .int .i64 (f.2 : Int)])

structure PCok (c : PCtx) (w : World) : Prop where
  row : RowC w (· < c.n0) 4 c.oa c.ts.length (fun j => tkL (c.ts.getD j tok0))
  n0 : c.n0 ≤ c.pb
  g : c.g < c.n0
  len : c.ts.length ≤ 1048576
  el : c.e ≤ 1048576
  sig : SigAt c.g w
  le : c.n0 ≤ w.heap.size
  wd : ∀ t ∈ c.ts, t.word ≤ 9223372036854775807
theorem PCok.kept {c : PCtx} {M : List Nat} {w w' : World} (h : PCok c w) (k : Chg M w w') (hM : ∀ b ∈ M, c.n0 ≤ b) : PCok c w' :=
  ⟨h.row.kept (.of_chg k fun b hb hm => absurd (hM b hm) (Nat.not_le.2 hb)), h.n0, h.g, h.len, h.el, h.sig.kept k (fun hm => absurd (hM _ hm) (Nat.not_le.2 h.g)), Nat.le_trans h.le k.size, h.wd⟩
theorem PCok.k1 {c : PCtx} {w w' : World} (h : PCok c w) (k : Chg [c.pb] w w') : PCok c w' := h.kept k (by simpa using h.n0)
theorem PCok.k2 {c : PCtx} {b : Nat} {w w' : World} (h : PCok c w) (k : Chg [c.pb, b] w w') (hb : c.n0 ≤ b) : PCok c w' := h.kept k (by simpa using ⟨h.n0, hb⟩)

theorem suf_get {ts r : List Tok} (h : r <:+ ts) (hr : r ≠ []) : ts.getD (ts.length - r.length) tok0 = here r ∧ ts.length - r.length < ts.length := by
  obtain ⟨a, rfl⟩ := h
  cases r with
  | nil => exact absurd rfl hr
  | cons x l =>
    have e : (a ++ x :: l).length - (x :: l).length = a.length := by simp
    rw [e]
    exact ⟨by simp [List.getD, here], by simp⟩
theorem suf_len {ts r : List Tok} (h : r <:+ ts) : r.length ≤ ts.length := h.length_le
theorem suf_tail {ts r : List Tok} (h : r <:+ ts) : r.tail <:+ ts := (List.tail_suffix r).trans h
theorem here_wd {ts r : List Tok} (h : ∀ t ∈ ts, t.word ≤ 9223372036854775807) (hr : r <:+ ts) : (here r).word ≤ 9223372036854775807 := by
  cases r with
  | nil => exact Nat.zero_le _
  | cons x l => exact h x (hr.subset (.head _))
theorem neg_i64 {n : Nat} (h : n ≤ 9223372036854775807) : IntKind.i64.wrap (0 - (n : Int)) = -(n : Int) := by rw [IntWalk.i64_in _ ⟨by omega, by omega⟩]; omega
theorem here_nil {r : List Tok} (h : r.length = 0) : here r = tok0 := by rw [List.eq_nil_of_length_eq_zero h]; rfl
theorem atT_nil {e : Nat} {r : List Tok} (h : r.length = 0) : atT e r = e := by rw [List.eq_nil_of_length_eq_zero h]; rfl
theorem atT_cons {e : Nat} {r : List Tok} (h : r ≠ []) : atT e r = (here r).at_ := by cases r with | nil => exact absurd rfl h | cons x l => rfl

/-- the cells of the token that stands here -/
theorem PCok.tok {c : PCtx} {w : World} (h : PCok c w) {r : List Tok} (hs : r <:+ c.ts) (hr : r ≠ []) : ∃ b off, c.oa = some ⟨b, off, none⟩ ∧ ∀ i v, (tkL (here r))[i]? = some v → w.cell? ⟨b, off + (c.ts.length - r.length) * 4 + i, none⟩ = some v := by
  obtain ⟨h1, h2⟩ := suf_get hs hr
  rcases h.row with h0 | ⟨b, off, e, hb, hl, hc⟩
  · omega
  · refine ⟨b, off, e, fun i v hi => (hc _ h2).2 i v ?_⟩
    dsimp only; rw [h1]; exact hi

/-- what a function of a parser hands back -/
def PRes {α : Type} (c : PCtx) (r : List Tok) (res : PR α) (M : List Nat) (w : World) (H : α → Value → World → Prop) (v : Value) (w' : World) : Prop :=
  ∃ x r', res = .ok (x, r') ∧ r' <:+ r ∧ r'.length < r.length ∧ PAt c r' w' ∧ Chg M w w' ∧ H x v w'
/-- it refuses -/
def PErr {α : Type} (c : PCtx) (res : Except Flt α) (M : List Nat) (w : World) (v : Value) (w' : World) : Prop :=
  ∃ f, res = .error f ∧ v = refV c f ∧ Chg M w w'

section
variable {w w' w0 : World} {M : List Nat} {hs : List Res}
/-- a block that is held has been written on by a callee -/
theorem St.prs {b : Nat} {o o' : Obj} (st : St w0 M hs w) (i : Nat) (hi : nth hs i = some (.blk b o)) (ch : Chg [b] w w') (hm : b ∈ M ∨ w0.heap.size ≤ b) (h' : w'.heap[b]? = some o') : St w0 M (setNth hs i (.blk b o')) w' :=
  st.turn hi rfl rfl ch hm h'
/-- and something new has come -/
theorem St.prsT {b : Nat} {o o' : Obj} {q : Res} (st : St w0 M hs w) (i : Nat) (hi : nth hs i = some (.blk b o)) (ch : Chg [b] w w') (hm : b ∈ M ∨ w0.heap.size ≤ b) (h' : w'.heap[b]? = some o')
    (hq : q.holds w0.heap.size w') (hqa : ∀ k ∈ q.at?, w.heap.size ≤ k) : St w0 M (q :: setNth hs i (.blk b o')) w' :=
  st.swapPush hi ch (by simp [Res.at?]) (by simpa using hm) (by simp [Res.at?]) h' hq hqa
/-- two blocks that are held are two -/
theorem St.bne {b b' : Nat} {o o' : Obj} (st : St w0 M hs w) (i j : Nat) (hij : i ≠ j) (hi : nth hs i = some (.blk b o)) (hj : nth hs j = some (.blk b' o')) : b ≠ b' := fun e => apart_nth st.nodup hij hi hj b (.head _) (by rw [e]; exact .head _)
theorem holds_ex {tE base : Nat} {oa : Option Addr} {cap : Nat} {es : List Ex} {S : List Nat} (h : ExR tE w oa cap es S) : (Res.tree S fun w => ExR tE w oa cap es S).holds base w := holds_of h h.lt (fun a b h hk => h.kept hk)
theorem holds_sm {tE tS base : Nat} {oa : Option Addr} {cap : Nat} {es : List Sm} {S : List Nat} (h : SmR tE tS w oa cap es S) : (Res.tree S fun w => SmR tE tS w oa cap es S).holds base w := holds_of h h.lt (fun a b h hk => h.kept hk)
theorem holds_dc {tD base : Nat} {oa : Option Addr} {cap : Nat} {es : List Dc} {S : List Nat} (h : DcR tD w oa cap es S) : (Res.tree S fun w => DcR tD w oa cap es S).holds base w := holds_of h h.lt (fun a b h hk => h.kept hk)
end
end Sx


/- The engine, sixteenth part: arrays that are values; arrays in memory; the neg of a number. -/
namespace Sx
open Go Go.RowKit
set_option linter.unusedVariables false
set_option linter.unusedSimpArgs false
section
variable {w0 w w' : World} {M : List Nat} {hs : List Res}
variable {P : Program} {n : Fr} {L : List Oper} {Q : Exit → Act → World → Prop} {kn : Kn} {N : Act → World → Prop}
variable {d ty : Nat} {pos : String} {aft : Array Edge} {g : Option (Nat × Bool)}

theorem y_neg {T : Nat} {x : Operand} {k : IntKind} {p r : Int} (hx : evO kn x = some (.int k p)) (hr : k.wrap (0 - p) = r) : Y P n kn w ⟨some d, .unOp .neg T x, ty, pos, aft, g⟩ (.int k r) := fun a ha => by
  subst hr
  simp only [execOp, ha.ev hx]
  simp [Op.unary, Op.intArith, go_sem]
theorem run_part1 {T off : Nat} {cs : List Value} {v : Value} (ha : ∀ w, (Go.isAgg T).run P w = .ok false w) (hv : nth cs off = some v) : (part T cs.toArray off).run P w = .ok v w := by
  rw [nth_eq] at hv
  unfold part
  simp [ha, hv]
theorem run_partA {T off sz : Nat} {cs vs : List Value} (ha : ∀ w, (Go.isAgg T).run P w = .ok true w) (hs : ∀ w, (Go.sizeOf T).run P w = .ok sz w) (hv : takeN sz (dropN cs off) = some vs) : (part T cs.toArray off).run P w = .ok (.agg vs.toArray) w := by
  obtain ⟨h1, h2⟩ := takeN_spec hv
  rw [dropN_eq] at h1
  unfold part
  simp [ha, hs, h1]
/-- a field of a struct that is a value -/
theorem y_fld {T i off : Nat} {x : Operand} {cs : List Value} {fs : Array Field} {f : Field} {v : Value} (hx : evO kn x = some (.agg cs.toArray)) (ht : P.underlying T = some (.struct fs)) (hf : nth fs.toList i = some f) (ho : f.offset = off)
    (ha : ∀ w, (Go.isAgg f.type).run P w = .ok false w) (hv : nth cs off = some v) : Y P n kn w ⟨some d, .field T x i, ty, pos, aft, g⟩ v := fun a hk => by
  subst ho
  rw [nth_eq] at hf
  have hf' : fs[i]? = some f := by simpa using hf
  simp only [execOp, hk.ev hx]
  simp [Instr.field, run_underlying ht, hf', asAgg, run_part1 ha hv]
end
end Sx

