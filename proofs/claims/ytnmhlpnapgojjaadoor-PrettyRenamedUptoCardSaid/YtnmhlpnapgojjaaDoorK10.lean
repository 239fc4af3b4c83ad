/- A part of the proof: contracts of functions and plain laws; each theorem says its own conditions. -/
import Derived.Maps.RangeRun
import Derived.Test.YtnmhlpnapgojjaaDoorK2
import Derived.Test.YtnmhlpnapgojjaaDoorK1
import Derived.Test.YtnmhlpnapgojjaaDoorK9
/- The engine, eighteenth part: trees whose rows lie each in a block of its own. -/
namespace Sx
open Go Go.RowKit
set_option linter.unusedVariables false
set_option linter.unusedSimpArgs false

def obk : Option Addr → List Nat | some a => [a.block] | none => []
theorem obk_own {oa : Option Addr} {n cap : Nat} : (Value.slice oa n cap).ownBlock.toList = obk oa := by cases oa <;> rfl
theorem owns_kept {w w' : World} {base E size n : Nat} {oa : Option Addr} {m cap : Nat} {xs : List Value} (h : w.ownsRow base E size (.slice oa m cap) n xs) (hk : ∀ b ∈ obk oa, w'.heap[b]? = w.heap[b]?) : w'.ownsRow base E size (.slice oa m cap) n xs := by
  refine ⟨h.1, h.2.imp id fun ⟨g, c, cur, e, hb, hc, hr⟩ => ⟨g, c, cur, e, hb, ?_, hr⟩⟩
  simp only [Value.slice.injEq] at e
  rw [hk g (by rw [e.1]; simp [obk])]; exact hc
theorem owns_lt {w : World} {base E size n : Nat} {oa : Option Addr} {m cap : Nat} {xs : List Value} (h : w.ownsRow base E size (.slice oa m cap) n xs) : ∀ b ∈ obk oa, base ≤ b ∧ b < w.heap.size := by
  intro b hb
  rw [← obk_own (n := m) (cap := cap)] at hb
  exact World.ownsRow.lt h b (by simpa using hb)
theorem owns_mono {w : World} {base base' E size n : Nat} {v : Value} {xs : List Value} (h : w.ownsRow base E size v n xs) (hb : ∀ b, v.ownBlock = some b → base' ≤ b) : w.ownsRow base' E size v n xs :=
  ⟨h.1, h.2.imp id fun ⟨g, c, cur, e, hg, hr⟩ => ⟨g, c, cur, e, hb g (by rw [e]; rfl), hr⟩⟩

section
variable (tE tS tD tT : Nat)
mutual
/-- an expression's cells, and the blocks that its kids lie in -/
def ExS (w : World) : Ex → List Value → List Nat → Prop
  | .mk k op wd nm kids a, l, S => ∃ oa cap xs S', l = [.int .u8 k, .int .u8 op, .int .i64 wd, str nm, .slice oa kids.length cap, .int .i64 a] ∧ w.ownsRow 0 tE 6 (.slice oa kids.length cap) kids.length xs ∧ S = obk oa ++ S' ∧ ExSs w kids xs S'
termination_by structural e => e
def ExSs (w : World) : List Ex → List Value → List Nat → Prop
  | [], xs, S => xs = [] ∧ S = []
  | e :: r, xs, S => ∃ v S1 xr Sr, xs = v ++ xr ∧ S = S1 ++ Sr ∧ ExS w e v S1 ∧ ExSs w r xr Sr
termination_by structural l => l
end
def ExR (w : World) (oa : Option Addr) (cap : Nat) (es : List Ex) (S : List Nat) : Prop := ∃ xs S', w.ownsRow 0 tE 6 (.slice oa es.length cap) es.length xs ∧ S = obk oa ++ S' ∧ ExSs tE w es xs S'
mutual
def SmS (w : World) : Sm → List Value → List Nat → Prop
  | .mk k nm other e body els a, l, S => ∃ oe ce ob cb ol cl Se xb Sb xl Sl, l = [.int .u8 k, str nm, str other, .slice oe e.length ce, .slice ob body.length cb, .slice ol els.length cl, .int .i64 a] ∧ ExR tE w oe ce e Se ∧
      w.ownsRow 0 tS 7 (.slice ob body.length cb) body.length xb ∧ SmSs w body xb Sb ∧ w.ownsRow 0 tS 7 (.slice ol els.length cl) els.length xl ∧ SmSs w els xl Sl ∧ S = Se ++ ((obk ob ++ Sb) ++ (obk ol ++ Sl))
termination_by structural s => s
def SmSs (w : World) : List Sm → List Value → List Nat → Prop
  | [], xs, S => xs = [] ∧ S = []
  | s :: r, xs, S => ∃ v S1 xr Sr, xs = v ++ xr ∧ S = S1 ++ Sr ∧ SmS w s v S1 ∧ SmSs w r xr Sr
termination_by structural l => l
end
def SmR (w : World) (oa : Option Addr) (cap : Nat) (ss : List Sm) (S : List Nat) : Prop := ∃ xs S', w.ownsRow 0 tS 7 (.slice oa ss.length cap) ss.length xs ∧ S = obk oa ++ S' ∧ SmSs tE tS w ss xs S'
def DcR (w : World) (oa : Option Addr) (cap : Nat) (ds : List Dc) (S : List Nat) : Prop := w.ownsRow 0 tD 3 (.slice oa ds.length cap) ds.length (ds.flatMap dcL) ∧ S = obk oa
def ThS (w : World) (t : Th) (l : List Value) (S : List Nat) : Prop := ∃ ol cl ob cb Sl Sb, l = [str t.nm, .slice ol t.locals.length cl, .slice ob t.body.length cb, .int .i64 t.a] ∧ DcR tD w ol cl t.locals Sl ∧ SmR tE tS w ob cb t.body Sb ∧ S = Sl ++ Sb
def ThSs (w : World) : List Th → List Value → List Nat → Prop
  | [], xs, S => xs = [] ∧ S = []
  | t :: r, xs, S => ∃ v S1 xr Sr, xs = v ++ xr ∧ S = S1 ++ Sr ∧ ThS tE tS tD w t v S1 ∧ ThSs w r xr Sr
def ThR (w : World) (oa : Option Addr) (cap : Nat) (ts : List Th) (S : List Nat) : Prop := ∃ xs S', w.ownsRow 0 tT 4 (.slice oa ts.length cap) ts.length xs ∧ S = obk oa ++ S' ∧ ThSs tE tS tD w ts xs S'
def PgS (w : World) (p : Pg) (l : List Value) (S : List Nat) : Prop := ∃ os cs ol cl ot ct Ss Sl St, l = [.slice os p.shared.length cs, .slice ol p.locks.length cl, .slice ot p.threads.length ct] ∧ DcR tD w os cs p.shared Ss ∧ DcR tD w ol cl p.locks Sl ∧ ThR tE tS tD tT w ot ct p.threads St ∧ S = Ss ++ (Sl ++ St)
end

section
variable {tE tS tD tT : Nat} {w w' : World}
theorem ExS_iff {e : Ex} {l : List Value} {S : List Nat} : ExS tE w e l S ↔ ∃ oa cap, l = [.int .u8 e.k, .int .u8 e.op, .int .i64 e.wd, str e.nm, .slice oa e.kids.length cap, .int .i64 e.a] ∧ ExR tE w oa cap e.kids S := by
  cases e with
  | mk k op wd nm kids a =>
    rw [ExS]
    constructor
    · rintro ⟨oa, cap, xs, S', h1, h2, h3, h4⟩
      exact ⟨oa, cap, h1, xs, S', h2, h3, h4⟩
    · rintro ⟨oa, cap, h1, xs, S', h2, h3, h4⟩
      exact ⟨oa, cap, xs, S', h1, h2, h3, h4⟩
theorem SmS_iff {s : Sm} {l : List Value} {S : List Nat} : SmS tE tS w s l S ↔ ∃ oe ce ob cb ol cl Se Sb Sl, l = [.int .u8 s.k, str s.nm, str s.other, .slice oe s.e.length ce, .slice ob s.body.length cb, .slice ol s.els.length cl, .int .i64 s.a] ∧
    ExR tE w oe ce s.e Se ∧ SmR tE tS w ob cb s.body Sb ∧ SmR tE tS w ol cl s.els Sl ∧ S = Se ++ (Sb ++ Sl) := by
  cases s with
  | mk k nm other e body els a =>
    rw [SmS]
    constructor
    · rintro ⟨oe, ce, ob, cb, ol, cl, Se, xb, Sb, xl, Sl, h1, h2, h3, h4, h5, h6, h7⟩
      exact ⟨oe, ce, ob, cb, ol, cl, Se, _, _, h1, h2, ⟨xb, Sb, h3, rfl, h4⟩, ⟨xl, Sl, h5, rfl, h6⟩, h7⟩
    · rintro ⟨oe, ce, ob, cb, ol, cl, Se, _, _, h1, h2, ⟨xb, Sb, h3, rfl, h4⟩, ⟨xl, Sl, h5, rfl, h6⟩, h7⟩
      exact ⟨oe, ce, ob, cb, ol, cl, Se, xb, Sb, xl, Sl, h1, h2, h3, h4, h5, h6, h7⟩
theorem ExS.len {e : Ex} {l : List Value} {S : List Nat} (h : ExS tE w e l S) : l.length = 6 := by obtain ⟨oa, cap, rfl, _⟩ := ExS_iff.1 h; rfl
theorem ExS.one {e : Ex} {l : List Value} {S : List Nat} (h : ExS tE w e l S) : allOne l = true := by obtain ⟨oa, cap, rfl, _⟩ := ExS_iff.1 h; rfl
theorem SmS.len {s : Sm} {l : List Value} {S : List Nat} (h : SmS tE tS w s l S) : l.length = 7 := by obtain ⟨oe, ce, ob, cb, ol, cl, Se, Sb, Sl, rfl, _⟩ := SmS_iff.1 h; rfl
theorem SmS.one {s : Sm} {l : List Value} {S : List Nat} (h : SmS tE tS w s l S) : allOne l = true := by obtain ⟨oe, ce, ob, cb, ol, cl, Se, Sb, Sl, rfl, _⟩ := SmS_iff.1 h; rfl
theorem ThS.len {t : Th} {l : List Value} {S : List Nat} (h : ThS tE tS tD w t l S) : l.length = 4 := by obtain ⟨ol, cl, ob, cb, Sl, Sb, rfl, _⟩ := h; rfl
theorem ThS.one {t : Th} {l : List Value} {S : List Nat} (h : ThS tE tS tD w t l S) : allOne l = true := by obtain ⟨ol, cl, ob, cb, Sl, Sb, rfl, _⟩ := h; rfl
theorem ExSs.len : ∀ {es : List Ex} {xs : List Value} {S : List Nat}, ExSs tE w es xs S → xs.length = es.length * 6
  | [], xs, S, h => by rw [ExSs] at h; rw [h.1]; rfl
  | e :: r, xs, S, h => by
    rw [ExSs] at h
    obtain ⟨v, S1, xr, Sr, rfl, rfl, h1, h2⟩ := h
    have := h1.len; have := ExSs.len h2
    simp; omega
theorem SmSs.len : ∀ {es : List Sm} {xs : List Value} {S : List Nat}, SmSs tE tS w es xs S → xs.length = es.length * 7
  | [], xs, S, h => by rw [SmSs] at h; rw [h.1]; rfl
  | e :: r, xs, S, h => by
    rw [SmSs] at h
    obtain ⟨v, S1, xr, Sr, rfl, rfl, h1, h2⟩ := h
    have := h1.len; have := SmSs.len h2
    simp; omega
theorem ThSs.len : ∀ {es : List Th} {xs : List Value} {S : List Nat}, ThSs tE tS tD w es xs S → xs.length = es.length * 4
  | [], xs, S, h => by rw [ThSs] at h; rw [h.1]; rfl
  | e :: r, xs, S, h => by
    rw [ThSs] at h
    obtain ⟨v, S1, xr, Sr, rfl, rfl, h1, h2⟩ := h
    have := h1.len; have := ThSs.len h2
    simp; omega

/-! ### what is apart stays -/
mutual
theorem ExS.kept : ∀ {e : Ex} {l : List Value} {S : List Nat}, ExS tE w e l S → (∀ b ∈ S, w'.heap[b]? = w.heap[b]?) → ExS tE w' e l S
  | .mk k op wd nm kids a, l, S, h, hk => by
    rw [ExS] at h ⊢
    obtain ⟨oa, cap, xs, S', h1, h2, rfl, h4⟩ := h
    exact ⟨oa, cap, xs, S', h1, owns_kept h2 (fun b hb => hk b (List.mem_append.2 (.inl hb))), rfl, ExSs.kept h4 (fun b hb => hk b (List.mem_append.2 (.inr hb)))⟩
termination_by structural e => e
theorem ExSs.kept : ∀ {es : List Ex} {xs : List Value} {S : List Nat}, ExSs tE w es xs S → (∀ b ∈ S, w'.heap[b]? = w.heap[b]?) → ExSs tE w' es xs S
  | [], xs, S, h, hk => by rw [ExSs] at h ⊢; exact h
  | e :: r, xs, S, h, hk => by
    rw [ExSs] at h ⊢
    obtain ⟨v, S1, xr, Sr, rfl, rfl, h1, h2⟩ := h
    exact ⟨v, S1, xr, Sr, rfl, rfl, ExS.kept h1 (fun b hb => hk b (List.mem_append.2 (.inl hb))), ExSs.kept h2 (fun b hb => hk b (List.mem_append.2 (.inr hb)))⟩
termination_by structural es => es
end
theorem ExR.kept {oa : Option Addr} {cap : Nat} {es : List Ex} {S : List Nat} (h : ExR tE w oa cap es S) (hk : ∀ b ∈ S, w'.heap[b]? = w.heap[b]?) : ExR tE w' oa cap es S := by
  obtain ⟨xs, S', h1, rfl, h3⟩ := h
  exact ⟨xs, S', owns_kept h1 (fun b hb => hk b (List.mem_append.2 (.inl hb))), rfl, ExSs.kept h3 (fun b hb => hk b (List.mem_append.2 (.inr hb)))⟩
mutual
theorem SmS.kept : ∀ {e : Sm} {l : List Value} {S : List Nat}, SmS tE tS w e l S → (∀ b ∈ S, w'.heap[b]? = w.heap[b]?) → SmS tE tS w' e l S
  | .mk k nm other e body els a, l, S, h, hk => by
    rw [SmS] at h ⊢
    obtain ⟨oe, ce, ob, cb, ol, cl, Se, xb, Sb, xl, Sl, h1, h2, h3, h4, h5, h6, rfl⟩ := h
    exact ⟨oe, ce, ob, cb, ol, cl, Se, xb, Sb, xl, Sl, h1, h2.kept (fun b hb => hk b (by simp [hb])), owns_kept h3 (fun b hb => hk b (by simp [hb])), SmSs.kept h4 (fun b hb => hk b (by simp [hb])),
      owns_kept h5 (fun b hb => hk b (by simp [hb])), SmSs.kept h6 (fun b hb => hk b (by simp [hb])), rfl⟩
termination_by structural e => e
theorem SmSs.kept : ∀ {es : List Sm} {xs : List Value} {S : List Nat}, SmSs tE tS w es xs S → (∀ b ∈ S, w'.heap[b]? = w.heap[b]?) → SmSs tE tS w' es xs S
  | [], xs, S, h, hk => by rw [SmSs] at h ⊢; exact h
  | e :: r, xs, S, h, hk => by
    rw [SmSs] at h ⊢
    obtain ⟨v, S1, xr, Sr, rfl, rfl, h1, h2⟩ := h
    exact ⟨v, S1, xr, Sr, rfl, rfl, SmS.kept h1 (fun b hb => hk b (List.mem_append.2 (.inl hb))), SmSs.kept h2 (fun b hb => hk b (List.mem_append.2 (.inr hb)))⟩
termination_by structural es => es
end
theorem SmR.kept {oa : Option Addr} {cap : Nat} {es : List Sm} {S : List Nat} (h : SmR tE tS w oa cap es S) (hk : ∀ b ∈ S, w'.heap[b]? = w.heap[b]?) : SmR tE tS w' oa cap es S := by
  obtain ⟨xs, S', h1, rfl, h3⟩ := h
  exact ⟨xs, S', owns_kept h1 (fun b hb => hk b (List.mem_append.2 (.inl hb))), rfl, SmSs.kept h3 (fun b hb => hk b (List.mem_append.2 (.inr hb)))⟩
theorem DcR.kept {oa : Option Addr} {cap : Nat} {es : List Dc} {S : List Nat} (h : DcR tD w oa cap es S) (hk : ∀ b ∈ S, w'.heap[b]? = w.heap[b]?) : DcR tD w' oa cap es S := by
  obtain ⟨h1, rfl⟩ := h
  exact ⟨owns_kept h1 hk, rfl⟩
theorem ThS.kept {t : Th} {l : List Value} {S : List Nat} (h : ThS tE tS tD w t l S) (hk : ∀ b ∈ S, w'.heap[b]? = w.heap[b]?) : ThS tE tS tD w' t l S := by
  obtain ⟨ol, cl, ob, cb, Sl, Sb, h1, h2, h3, rfl⟩ := h
  exact ⟨ol, cl, ob, cb, Sl, Sb, h1, h2.kept (fun b hb => hk b (List.mem_append.2 (.inl hb))), h3.kept (fun b hb => hk b (List.mem_append.2 (.inr hb))), rfl⟩
theorem ThSs.kept : ∀ {es : List Th} {xs : List Value} {S : List Nat}, ThSs tE tS tD w es xs S → (∀ b ∈ S, w'.heap[b]? = w.heap[b]?) → ThSs tE tS tD w' es xs S
  | [], xs, S, h, hk => by rw [ThSs] at h ⊢; exact h
  | e :: r, xs, S, h, hk => by
    rw [ThSs] at h ⊢
    obtain ⟨v, S1, xr, Sr, rfl, rfl, h1, h2⟩ := h
    exact ⟨v, S1, xr, Sr, rfl, rfl, h1.kept (fun b hb => hk b (List.mem_append.2 (.inl hb))), ThSs.kept h2 (fun b hb => hk b (List.mem_append.2 (.inr hb)))⟩
theorem ThR.kept {oa : Option Addr} {cap : Nat} {es : List Th} {S : List Nat} (h : ThR tE tS tD tT w oa cap es S) (hk : ∀ b ∈ S, w'.heap[b]? = w.heap[b]?) : ThR tE tS tD tT w' oa cap es S := by
  obtain ⟨xs, S', h1, rfl, h3⟩ := h
  exact ⟨xs, S', owns_kept h1 (fun b hb => hk b (List.mem_append.2 (.inl hb))), rfl, ThSs.kept h3 (fun b hb => hk b (List.mem_append.2 (.inr hb)))⟩
theorem PgS.kept {p : Pg} {l : List Value} {S : List Nat} (h : PgS tE tS tD tT w p l S) (hk : ∀ b ∈ S, w'.heap[b]? = w.heap[b]?) : PgS tE tS tD tT w' p l S := by
  obtain ⟨os, cs, ol, cl, ot, ct, Ss, Sl, St, h1, h2, h3, h4, rfl⟩ := h
  exact ⟨os, cs, ol, cl, ot, ct, Ss, Sl, St, h1, h2.kept (fun b hb => hk b (by simp [hb])), h3.kept (fun b hb => hk b (by simp [hb])), h4.kept (fun b hb => hk b (by simp [hb])), rfl⟩

/-! ### the blocks are there -/
mutual
theorem ExS.lt : ∀ {e : Ex} {l : List Value} {S : List Nat}, ExS tE w e l S → ∀ b ∈ S, b < w.heap.size
  | .mk k op wd nm kids a, l, S, h, b, hb => by
    rw [ExS] at h
    obtain ⟨oa, cap, xs, S', h1, h2, rfl, h4⟩ := h
    rcases List.mem_append.1 hb with hb | hb
    · exact (owns_lt h2 b hb).2
    · exact ExSs.lt h4 b hb
termination_by structural e => e
theorem ExSs.lt : ∀ {es : List Ex} {xs : List Value} {S : List Nat}, ExSs tE w es xs S → ∀ b ∈ S, b < w.heap.size
  | [], xs, S, h, b, hb => by rw [ExSs] at h; rw [h.2] at hb; cases hb
  | e :: r, xs, S, h, b, hb => by
    rw [ExSs] at h
    obtain ⟨v, S1, xr, Sr, rfl, rfl, h1, h2⟩ := h
    rcases List.mem_append.1 hb with hb | hb
    · exact ExS.lt h1 b hb
    · exact ExSs.lt h2 b hb
termination_by structural es => es
end
theorem ExR.lt {oa : Option Addr} {cap : Nat} {es : List Ex} {S : List Nat} (h : ExR tE w oa cap es S) : ∀ b ∈ S, b < w.heap.size := by
  obtain ⟨xs, S', h1, rfl, h3⟩ := h
  intro b hb
  rcases List.mem_append.1 hb with hb | hb
  · exact (owns_lt h1 b hb).2
  · exact ExSs.lt h3 b hb
mutual
theorem SmS.lt : ∀ {e : Sm} {l : List Value} {S : List Nat}, SmS tE tS w e l S → ∀ b ∈ S, b < w.heap.size
  | .mk k nm other e body els a, l, S, h, b, hb => by
    rw [SmS] at h
    obtain ⟨oe, ce, ob, cb, ol, cl, Se, xb, Sb, xl, Sl, h1, h2, h3, h4, h5, h6, rfl⟩ := h
    simp only [List.mem_append] at hb
    rcases hb with hb | (hb | hb) | (hb | hb)
    · exact h2.lt b hb
    · exact (owns_lt h3 b hb).2
    · exact SmSs.lt h4 b hb
    · exact (owns_lt h5 b hb).2
    · exact SmSs.lt h6 b hb
termination_by structural e => e
theorem SmSs.lt : ∀ {es : List Sm} {xs : List Value} {S : List Nat}, SmSs tE tS w es xs S → ∀ b ∈ S, b < w.heap.size
  | [], xs, S, h, b, hb => by rw [SmSs] at h; rw [h.2] at hb; cases hb
  | e :: r, xs, S, h, b, hb => by
    rw [SmSs] at h
    obtain ⟨v, S1, xr, Sr, rfl, rfl, h1, h2⟩ := h
    rcases List.mem_append.1 hb with hb | hb
    · exact SmS.lt h1 b hb
    · exact SmSs.lt h2 b hb
termination_by structural es => es
end
theorem SmR.lt {oa : Option Addr} {cap : Nat} {es : List Sm} {S : List Nat} (h : SmR tE tS w oa cap es S) : ∀ b ∈ S, b < w.heap.size := by
  obtain ⟨xs, S', h1, rfl, h3⟩ := h
  intro b hb
  rcases List.mem_append.1 hb with hb | hb
  · exact (owns_lt h1 b hb).2
  · exact SmSs.lt h3 b hb
theorem DcR.lt {oa : Option Addr} {cap : Nat} {es : List Dc} {S : List Nat} (h : DcR tD w oa cap es S) : ∀ b ∈ S, b < w.heap.size := by
  obtain ⟨h1, rfl⟩ := h
  exact fun b hb => (owns_lt h1 b hb).2
theorem ThS.lt {t : Th} {l : List Value} {S : List Nat} (h : ThS tE tS tD w t l S) : ∀ b ∈ S, b < w.heap.size := by
  obtain ⟨ol, cl, ob, cb, Sl, Sb, h1, h2, h3, rfl⟩ := h
  intro b hb
  rcases List.mem_append.1 hb with hb | hb
  · exact h2.lt b hb
  · exact h3.lt b hb
theorem ThSs.lt : ∀ {es : List Th} {xs : List Value} {S : List Nat}, ThSs tE tS tD w es xs S → ∀ b ∈ S, b < w.heap.size
  | [], xs, S, h, b, hb => by rw [ThSs] at h; rw [h.2] at hb; cases hb
  | e :: r, xs, S, h, b, hb => by
    rw [ThSs] at h
    obtain ⟨v, S1, xr, Sr, rfl, rfl, h1, h2⟩ := h
    rcases List.mem_append.1 hb with hb | hb
    · exact h1.lt b hb
    · exact ThSs.lt h2 b hb
theorem ThR.lt {oa : Option Addr} {cap : Nat} {es : List Th} {S : List Nat} (h : ThR tE tS tD tT w oa cap es S) : ∀ b ∈ S, b < w.heap.size := by
  obtain ⟨xs, S', h1, rfl, h3⟩ := h
  intro b hb
  rcases List.mem_append.1 hb with hb | hb
  · exact (owns_lt h1 b hb).2
  · exact ThSs.lt h3 b hb
theorem PgS.lt {p : Pg} {l : List Value} {S : List Nat} (h : PgS tE tS tD tT w p l S) : ∀ b ∈ S, b < w.heap.size := by
  obtain ⟨os, cs, ol, cl, ot, ct, Ss, Sl, St, h1, h2, h3, h4, rfl⟩ := h
  intro b hb
  simp only [List.mem_append] at hb
  rcases hb with hb | hb | hb
  · exact h2.lt b hb
  · exact h3.lt b hb
  · exact h4.lt b hb

/-! ### lists of them -/
theorem ExSs_app : ∀ {a b : List Ex} {xs : List Value} {S : List Nat}, ExSs tE w (a ++ b) xs S ↔ ∃ xa xb Sa Sb, xs = xa ++ xb ∧ S = Sa ++ Sb ∧ ExSs tE w a xa Sa ∧ ExSs tE w b xb Sb
  | [], b, xs, S => by
    simp only [List.nil_append, ExSs]
    constructor
    · intro h; exact ⟨[], xs, [], S, rfl, rfl, ⟨rfl, rfl⟩, h⟩
    · rintro ⟨xa, xb, Sa, Sb, rfl, rfl, ⟨rfl, rfl⟩, h⟩; exact h
  | e :: r, b, xs, S => by
    simp only [List.cons_append, ExSs]
    constructor
    · rintro ⟨v, S1, xr, Sr, rfl, rfl, h1, h2⟩
      obtain ⟨xa, xb, Sa, Sb, rfl, rfl, h3, h4⟩ := ExSs_app.1 h2
      exact ⟨v ++ xa, xb, S1 ++ Sa, Sb, by simp, by simp, ⟨v, S1, xa, Sa, rfl, rfl, h1, h3⟩, h4⟩
    · rintro ⟨_, xb, _, Sb, rfl, rfl, ⟨v, S1, xa, Sa, rfl, rfl, h1, h3⟩, h4⟩
      exact ⟨v, S1, xa ++ xb, Sa ++ Sb, by simp, by simp, h1, ExSs_app.2 ⟨xa, xb, Sa, Sb, rfl, rfl, h3, h4⟩⟩
theorem SmSs_app : ∀ {a b : List Sm} {xs : List Value} {S : List Nat}, SmSs tE tS w (a ++ b) xs S ↔ ∃ xa xb Sa Sb, xs = xa ++ xb ∧ S = Sa ++ Sb ∧ SmSs tE tS w a xa Sa ∧ SmSs tE tS w b xb Sb
  | [], b, xs, S => by
    simp only [List.nil_append, SmSs]
    constructor
    · intro h; exact ⟨[], xs, [], S, rfl, rfl, ⟨rfl, rfl⟩, h⟩
    · rintro ⟨xa, xb, Sa, Sb, rfl, rfl, ⟨rfl, rfl⟩, h⟩; exact h
  | e :: r, b, xs, S => by
    simp only [List.cons_append, SmSs]
    constructor
    · rintro ⟨v, S1, xr, Sr, rfl, rfl, h1, h2⟩
      obtain ⟨xa, xb, Sa, Sb, rfl, rfl, h3, h4⟩ := SmSs_app.1 h2
      exact ⟨v ++ xa, xb, S1 ++ Sa, Sb, by simp, by simp, ⟨v, S1, xa, Sa, rfl, rfl, h1, h3⟩, h4⟩
    · rintro ⟨_, xb, _, Sb, rfl, rfl, ⟨v, S1, xa, Sa, rfl, rfl, h1, h3⟩, h4⟩
      exact ⟨v, S1, xa ++ xb, Sa ++ Sb, by simp, by simp, h1, SmSs_app.2 ⟨xa, xb, Sa, Sb, rfl, rfl, h3, h4⟩⟩
theorem ThSs_app : ∀ {a b : List Th} {xs : List Value} {S : List Nat}, ThSs tE tS tD w (a ++ b) xs S ↔ ∃ xa xb Sa Sb, xs = xa ++ xb ∧ S = Sa ++ Sb ∧ ThSs tE tS tD w a xa Sa ∧ ThSs tE tS tD w b xb Sb
  | [], b, xs, S => by
    simp only [List.nil_append, ThSs]
    constructor
    · intro h; exact ⟨[], xs, [], S, rfl, rfl, ⟨rfl, rfl⟩, h⟩
    · rintro ⟨xa, xb, Sa, Sb, rfl, rfl, ⟨rfl, rfl⟩, h⟩; exact h
  | e :: r, b, xs, S => by
    simp only [List.cons_append, ThSs]
    constructor
    · rintro ⟨v, S1, xr, Sr, rfl, rfl, h1, h2⟩
      obtain ⟨xa, xb, Sa, Sb, rfl, rfl, h3, h4⟩ := ThSs_app.1 h2
      exact ⟨v ++ xa, xb, S1 ++ Sa, Sb, by simp, by simp, ⟨v, S1, xa, Sa, rfl, rfl, h1, h3⟩, h4⟩
    · rintro ⟨_, xb, _, Sb, rfl, rfl, ⟨v, S1, xa, Sa, rfl, rfl, h1, h3⟩, h4⟩
      exact ⟨v, S1, xa ++ xb, Sa ++ Sb, by simp, by simp, h1, ThSs_app.2 ⟨xa, xb, Sa, Sb, rfl, rfl, h3, h4⟩⟩
theorem ExSs_one {e : Ex} {xs : List Value} {S : List Nat} : ExSs tE w [e] xs S ↔ ExS tE w e xs S := by
  simp only [ExSs]
  constructor
  · rintro ⟨v, S1, xr, Sr, rfl, rfl, h1, rfl, rfl⟩; simpa using h1
  · intro h; exact ⟨xs, S, [], [], by simp, by simp, h, rfl, rfl⟩
theorem SmSs_one {e : Sm} {xs : List Value} {S : List Nat} : SmSs tE tS w [e] xs S ↔ SmS tE tS w e xs S := by
  simp only [SmSs]
  constructor
  · rintro ⟨v, S1, xr, Sr, rfl, rfl, h1, rfl, rfl⟩; simpa using h1
  · intro h; exact ⟨xs, S, [], [], by simp, by simp, h, rfl, rfl⟩
theorem ThSs_one {e : Th} {xs : List Value} {S : List Nat} : ThSs tE tS tD w [e] xs S ↔ ThS tE tS tD w e xs S := by
  simp only [ThSs]
  constructor
  · rintro ⟨v, S1, xr, Sr, rfl, rfl, h1, rfl, rfl⟩; simpa using h1
  · intro h; exact ⟨xs, S, [], [], by simp, by simp, h, rfl, rfl⟩
theorem ExSs.snoc {a : List Ex} {e : Ex} {xs l : List Value} {S S1 : List Nat} (h : ExSs tE w a xs S) (h1 : ExS tE w e l S1) : ExSs tE w (a ++ [e]) (xs ++ l) (S ++ S1) := ExSs_app.2 ⟨xs, l, S, S1, rfl, rfl, h, ExSs_one.2 h1⟩
theorem SmSs.snoc {a : List Sm} {e : Sm} {xs l : List Value} {S S1 : List Nat} (h : SmSs tE tS w a xs S) (h1 : SmS tE tS w e l S1) : SmSs tE tS w (a ++ [e]) (xs ++ l) (S ++ S1) := SmSs_app.2 ⟨xs, l, S, S1, rfl, rfl, h, SmSs_one.2 h1⟩
theorem ThSs.snoc {a : List Th} {e : Th} {xs l : List Value} {S S1 : List Nat} (h : ThSs tE tS tD w a xs S) (h1 : ThS tE tS tD w e l S1) : ThSs tE tS tD w (a ++ [e]) (xs ++ l) (S ++ S1) := ThSs_app.2 ⟨xs, l, S, S1, rfl, rfl, h, ThSs_one.2 h1⟩
/-- the one at 'j' -/
theorem ExSs.get : ∀ {es : List Ex} {xs : List Value} {S : List Nat} {j : Nat} {e : Ex}, ExSs tE w es xs S → es[j]? = some e → ∃ Sj, ExS tE w e ((xs.drop (j * 6)).take 6) Sj ∧ ∀ b ∈ Sj, b ∈ S
  | [], xs, S, j, e, h, hj => by simp at hj
  | x :: r, xs, S, 0, e, h, hj => by
    rw [ExSs] at h
    obtain ⟨v, S1, xr, Sr, rfl, rfl, h1, h2⟩ := h
    simp only [List.getElem?_cons_zero, Option.some.injEq] at hj
    subst hj
    refine ⟨S1, ?_, fun b hb => List.mem_append.2 (.inl hb)⟩
    simpa [List.take_append_of_le_length, List.take_of_length_le, h1.len] using h1
  | x :: r, xs, S, j + 1, e, h, hj => by
    rw [ExSs] at h
    obtain ⟨v, S1, xr, Sr, rfl, rfl, h1, h2⟩ := h
    obtain ⟨Sj, h3, h4⟩ := ExSs.get h2 (by simpa using hj)
    refine ⟨Sj, ?_, fun b hb => List.mem_append.2 (.inr (h4 b hb))⟩
    rw [show (j + 1) * 6 = v.length + j * 6 by rw [h1.len]; omega, ← List.drop_drop, List.drop_left]
    exact h3
theorem SmSs.get : ∀ {es : List Sm} {xs : List Value} {S : List Nat} {j : Nat} {e : Sm}, SmSs tE tS w es xs S → es[j]? = some e → ∃ Sj, SmS tE tS w e ((xs.drop (j * 7)).take 7) Sj ∧ ∀ b ∈ Sj, b ∈ S
  | [], xs, S, j, e, h, hj => by simp at hj
  | x :: r, xs, S, 0, e, h, hj => by
    rw [SmSs] at h
    obtain ⟨v, S1, xr, Sr, rfl, rfl, h1, h2⟩ := h
    simp only [List.getElem?_cons_zero, Option.some.injEq] at hj
    subst hj
    refine ⟨S1, ?_, fun b hb => List.mem_append.2 (.inl hb)⟩
    simpa [List.take_append_of_le_length, List.take_of_length_le, h1.len] using h1
  | x :: r, xs, S, j + 1, e, h, hj => by
    rw [SmSs] at h
    obtain ⟨v, S1, xr, Sr, rfl, rfl, h1, h2⟩ := h
    obtain ⟨Sj, h3, h4⟩ := SmSs.get h2 (by simpa using hj)
    refine ⟨Sj, ?_, fun b hb => List.mem_append.2 (.inr (h4 b hb))⟩
    rw [show (j + 1) * 7 = v.length + j * 7 by rw [h1.len]; omega, ← List.drop_drop, List.drop_left]
    exact h3
theorem ThSs.get : ∀ {es : List Th} {xs : List Value} {S : List Nat} {j : Nat} {e : Th}, ThSs tE tS tD w es xs S → es[j]? = some e → ∃ Sj, ThS tE tS tD w e ((xs.drop (j * 4)).take 4) Sj ∧ ∀ b ∈ Sj, b ∈ S
  | [], xs, S, j, e, h, hj => by simp at hj
  | x :: r, xs, S, 0, e, h, hj => by
    rw [ThSs] at h
    obtain ⟨v, S1, xr, Sr, rfl, rfl, h1, h2⟩ := h
    simp only [List.getElem?_cons_zero, Option.some.injEq] at hj
    subst hj
    refine ⟨S1, ?_, fun b hb => List.mem_append.2 (.inl hb)⟩
    simpa [List.take_append_of_le_length, List.take_of_length_le, h1.len] using h1
  | x :: r, xs, S, j + 1, e, h, hj => by
    rw [ThSs] at h
    obtain ⟨v, S1, xr, Sr, rfl, rfl, h1, h2⟩ := h
    obtain ⟨Sj, h3, h4⟩ := ThSs.get h2 (by simpa using hj)
    refine ⟨Sj, ?_, fun b hb => List.mem_append.2 (.inr (h4 b hb))⟩
    rw [show (j + 1) * 4 = v.length + j * 4 by rw [h1.len]; omega, ← List.drop_drop, List.drop_left]
    exact h3

/-! ### read as rows -/
theorem rowC_own {oa : Option Addr} {n cap E sz : Nat} {xs : List Value} {S : Nat → Prop} (h : w.ownsRow 0 E sz (.slice oa n cap) n xs) (hS : ∀ b ∈ obk oa, S b) : RowC w S sz oa n (fun j => (xs.drop (j * sz)).take sz) := by
  rcases Nat.eq_zero_or_pos n with h0 | h0
  · exact .inl h0
  · right
    obtain ⟨g, c, e, -⟩ := own_form h h0
    simp only [Value.slice.injEq] at e
    obtain ⟨rfl, -, rfl⟩ := e
    refine ⟨g, 0, rfl, hS g (by simp [obk]), (owns_lt h g (by simp [obk])).2, fun j hj => ⟨?_, fun i v hi => ?_⟩⟩
    · have h1 : xs.length = n * sz := h.1
      have h2 : j * sz + sz ≤ n * sz := by rw [← Nat.succ_mul]; exact Nat.mul_le_mul_right _ hj
      simp; omega
    · rw [List.getElem?_take] at hi
      split at hi
      · rw [List.getElem?_drop] at hi
        rw [Nat.zero_add]
        exact own_cell h hi
      · cases hi
mutual
theorem ExS.toV {T : Nat → Prop} : ∀ {e : Ex} {l : List Value} {S : List Nat}, ExS tE w e l S → (∀ b ∈ S, T b) → ExV w T e l
  | .mk k op wd nm kids a, l, S, h, hS => by
    rw [ExS] at h
    obtain ⟨oa, cap, xs, S', rfl, h2, rfl, h4⟩ := h
    refine .mk _ (rowC_own h2 fun b hb => hS b (List.mem_append.2 (.inl hb))) ?_
    exact ExSs.toV h4 (fun b hb => hS b (List.mem_append.2 (.inr hb)))
termination_by structural e => e
theorem ExSs.toV {T : Nat → Prop} : ∀ {es : List Ex} {xs : List Value} {S : List Nat}, ExSs tE w es xs S → (∀ b ∈ S, T b) → ∀ (j : Nat) x, es[j]? = some x → ExV w T x ((xs.drop (j * 6)).take 6)
  | [], xs, S, h, hS, j, x, hx => by simp at hx
  | e :: r, xs, S, h, hS, 0, x, hx => by
    rw [ExSs] at h
    obtain ⟨v, S1, xr, Sr, rfl, rfl, h1, h2⟩ := h
    simp only [List.getElem?_cons_zero, Option.some.injEq] at hx
    subst hx
    have := ExS.toV h1 (fun b hb => hS b (List.mem_append.2 (.inl hb)))
    simpa [List.take_append_of_le_length, List.take_of_length_le, h1.len] using this
  | e :: r, xs, S, h, hS, j + 1, x, hx => by
    rw [ExSs] at h
    obtain ⟨v, S1, xr, Sr, rfl, rfl, h1, h2⟩ := h
    have := ExSs.toV h2 (fun b hb => hS b (List.mem_append.2 (.inr hb))) j x (by simpa using hx)
    rw [show (j + 1) * 6 = v.length + j * 6 by rw [h1.len]; omega, ← List.drop_drop, List.drop_left]
    exact this
termination_by structural es => es
end
theorem ExR.toRow {T : Nat → Prop} {oa : Option Addr} {cap : Nat} {es : List Ex} {S : List Nat} (h : ExR tE w oa cap es S) (hS : ∀ b ∈ S, T b) : ExRow w T oa es := by
  obtain ⟨xs, S', h1, rfl, h3⟩ := h
  exact ⟨_, rowC_own h1 fun b hb => hS b (List.mem_append.2 (.inl hb)), ExSs.toV h3 (fun b hb => hS b (List.mem_append.2 (.inr hb)))⟩
mutual
theorem SmS.toV {T : Nat → Prop} : ∀ {e : Sm} {l : List Value} {S : List Nat}, SmS tE tS w e l S → (∀ b ∈ S, T b) → SmV w T e l
  | .mk k nm other e body els a, l, S, h, hS => by
    rw [SmS] at h
    obtain ⟨oe, ce, ob, cb, ol, cl, Se, xb, Sb, xl, Sl, rfl, h2, h3, h4, h5, h6, rfl⟩ := h
    exact .mk _ _ (h2.toRow fun b hb => hS b (by simp [hb])) (rowC_own h3 fun b hb => hS b (by simp [hb])) (SmSs.toV h4 fun b hb => hS b (by simp [hb])) (rowC_own h5 fun b hb => hS b (by simp [hb])) (SmSs.toV h6 fun b hb => hS b (by simp [hb]))
termination_by structural e => e
theorem SmSs.toV {T : Nat → Prop} : ∀ {es : List Sm} {xs : List Value} {S : List Nat}, SmSs tE tS w es xs S → (∀ b ∈ S, T b) → ∀ (j : Nat) x, es[j]? = some x → SmV w T x ((xs.drop (j * 7)).take 7)
  | [], xs, S, h, hS, j, x, hx => by simp at hx
  | e :: r, xs, S, h, hS, 0, x, hx => by
    rw [SmSs] at h
    obtain ⟨v, S1, xr, Sr, rfl, rfl, h1, h2⟩ := h
    simp only [List.getElem?_cons_zero, Option.some.injEq] at hx
    subst hx
    have := SmS.toV h1 (fun b hb => hS b (List.mem_append.2 (.inl hb)))
    simpa [List.take_append_of_le_length, List.take_of_length_le, h1.len] using this
  | e :: r, xs, S, h, hS, j + 1, x, hx => by
    rw [SmSs] at h
    obtain ⟨v, S1, xr, Sr, rfl, rfl, h1, h2⟩ := h
    have := SmSs.toV h2 (fun b hb => hS b (List.mem_append.2 (.inr hb))) j x (by simpa using hx)
    rw [show (j + 1) * 7 = v.length + j * 7 by rw [h1.len]; omega, ← List.drop_drop, List.drop_left]
    exact this
termination_by structural es => es
end
theorem SmR.toRow {T : Nat → Prop} {oa : Option Addr} {cap : Nat} {es : List Sm} {S : List Nat} (h : SmR tE tS w oa cap es S) (hS : ∀ b ∈ S, T b) : SmRow w T oa es := by
  obtain ⟨xs, S', h1, rfl, h3⟩ := h
  exact ⟨_, rowC_own h1 fun b hb => hS b (List.mem_append.2 (.inl hb)), SmSs.toV h3 (fun b hb => hS b (List.mem_append.2 (.inr hb)))⟩
theorem dcs_chunk : ∀ {ds : List Dc} {j : Nat} {d : Dc}, ds[j]? = some d → ((ds.flatMap dcL).drop (j * 3)).take 3 = dcL d
  | [], j, d, h => by simp at h
  | x :: r, 0, d, h => by
    simp only [List.getElem?_cons_zero, Option.some.injEq] at h
    subst h
    simp [dcL]
  | x :: r, j + 1, d, h => by
    rw [List.flatMap_cons, show (j + 1) * 3 = (dcL x).length + j * 3 by simp [dcL]; omega, ← List.drop_drop, List.drop_left]
    exact dcs_chunk (by simpa using h)
theorem DcR.toRow {T : Nat → Prop} {oa : Option Addr} {cap : Nat} {es : List Dc} {S : List Nat} (h : DcR tD w oa cap es S) (hS : ∀ b ∈ S, T b) : DcRow w T oa es := by
  obtain ⟨h1, rfl⟩ := h
  refine (rowC_own h1 hS).imp id fun ⟨b, off, e, hb, hl, hc⟩ => ⟨b, off, e, hb, hl, fun j hj => ?_⟩
  have := hc j hj
  dsimp only at this
  rw [dcs_chunk (List.getElem?_eq_getElem hj)] at this
  simpa only [List.getD, List.getElem?_eq_getElem hj, Option.getD_some] using this
theorem ThS.toV {T : Nat → Prop} {t : Th} {l : List Value} {S : List Nat} (h : ThS tE tS tD w t l S) (hS : ∀ b ∈ S, T b) : ThV w T t l := by
  obtain ⟨ol, cl, ob, cb, Sl, Sb, h1, h2, h3, rfl⟩ := h
  exact ⟨ol, cl, ob, cb, h1, h2.toRow fun b hb => hS b (by simp [hb]), h3.toRow fun b hb => hS b (by simp [hb])⟩
theorem ThSs.toV {T : Nat → Prop} {es : List Th} {xs : List Value} {S : List Nat} (h : ThSs tE tS tD w es xs S) (hS : ∀ b ∈ S, T b) (j : Nat) (x : Th) (hx : es[j]? = some x) : ThV w T x ((xs.drop (j * 4)).take 4) := by
  obtain ⟨Sj, h1, h2⟩ := h.get hx
  exact h1.toV fun b hb => hS b (h2 b hb)
theorem ThR.toRow {T : Nat → Prop} {oa : Option Addr} {cap : Nat} {es : List Th} {S : List Nat} (h : ThR tE tS tD tT w oa cap es S) (hS : ∀ b ∈ S, T b) : ThRow w T oa es := by
  obtain ⟨xs, S', h1, rfl, h3⟩ := h
  exact ⟨_, rowC_own h1 fun b hb => hS b (List.mem_append.2 (.inl hb)), h3.toV (fun b hb => hS b (List.mem_append.2 (.inr hb)))⟩
theorem PgS.toV {T : Nat → Prop} {p : Pg} {l : List Value} {S : List Nat} (h : PgS tE tS tD tT w p l S) (hS : ∀ b ∈ S, T b) : PgV w T p l := by
  obtain ⟨os, cs, ol, cl, ot, ct, Ss, Sl, St, h1, h2, h3, h4, rfl⟩ := h
  exact ⟨os, cs, ol, cl, ot, ct, h1, h2.toRow fun b hb => hS b (by simp [hb]), h3.toRow fun b hb => hS b (by simp [hb]), h4.toRow fun b hb => hS b (by simp [hb])⟩

/-! ### new trees, held -/
/-- the blocks are new since 'n', each is named once -/
def Nw (n : Nat) (S : List Nat) : Prop := S.Nodup ∧ ∀ b ∈ S, n ≤ b
theorem Nw.nil {n : Nat} : Nw n [] := ⟨List.nodup_nil, by simp⟩
theorem Nw.le {n m : Nat} {S : List Nat} (h : Nw n S) (hm : m ≤ n) : Nw m S := ⟨h.1, fun b hb => Nat.le_trans hm (h.2 b hb)⟩
theorem Nw.app {n : Nat} {S T : List Nat} (h : Nw n S) (k : Nw n T) (hd : ∀ b ∈ S, b ∉ T) : Nw n (S ++ T) := ⟨List.nodup_append.2 ⟨h.1, k.1, fun a ha b hb e => hd a ha (e ▸ hb)⟩, fun b hb => by
  rcases List.mem_append.1 hb with h1 | h1
  · exact h.2 b h1
  · exact k.2 b h1⟩
theorem Nw.left {n : Nat} {S T : List Nat} (h : Nw n (S ++ T)) : Nw n S := ⟨(List.nodup_append.1 h.1).1, fun b hb => h.2 b (List.mem_append.2 (.inl hb))⟩
theorem Nw.right {n : Nat} {S T : List Nat} (h : Nw n (S ++ T)) : Nw n T := ⟨(List.nodup_append.1 h.1).2.1, fun b hb => h.2 b (List.mem_append.2 (.inr hb))⟩
theorem Nw.ne {n : Nat} {S T : List Nat} (h : Nw n (S ++ T)) : ∀ b ∈ S, b ∉ T := fun b hb hb' => (List.nodup_append.1 h.1).2.2 b hb b hb' rfl
/-- what hangs on the blocks 'S' alone -/
theorem loc_of {S : List Nat} {φ : World → Prop} (h : ∀ w w', φ w → (∀ b ∈ S, w'.heap[b]? = w.heap[b]?) → φ w') : Loc S φ := fun a b _ hk hp => h a b hp hk
theorem holds_of {base : Nat} {S : List Nat} {φ : World → Prop} (h : φ w) (hlt : ∀ b ∈ S, b < w.heap.size) (hk : ∀ w w', φ w → (∀ b ∈ S, w'.heap[b]? = w.heap[b]?) → φ w') : (Res.tree S φ).holds base w := ⟨h, hlt, loc_of hk⟩
end
end Sx


/- The engine, nineteenth part: rows of another's copied; new trees put together. -/
namespace Sx
open Go Go.RowKit
set_option linter.unusedVariables false
set_option linter.unusedSimpArgs false
section
variable {w0 w w' : World} {M : List Nat} {hs : List Res}
variable {P : Program} {n : Fr} {L : List Oper} {Q : Exit → Act → World → Prop} {kn : Kn} {N : Act → World → Prop}
variable {d ty : Nat} {pos : String} {aft : Array Edge} {g : Option (Nat × Bool)}
/-- a row that can be read, or an empty one -/
def RdRowC (w : World) (oa : Option Addr) (l : List Value) : Prop := l = [] ∨ ∃ a, oa = some a ∧ ∀ k u, l[k]? = some u → w.cell? (a.add k) = some u
theorem run_append_none' (base : Nat) (t ty e : TypeId) (i : TypeInfo) (size c : Nat) (ht : P.underlying t = some (.slice e)) (hi : P.info? e = some i) (v : Value) (n : Nat) (xs : List Value) (hown : w.ownsRow base e size v n xs) :
    (Builtin.append_ #[t, t] ty #[v, .slice none 0 c]).run P w = .ok v w := by
  rcases hown.2 with ⟨rfl, rfl⟩ | ⟨g, cap, cur, rfl, _, _, hnc, _⟩
  · simp [Builtin.append_, run_underlying ht, Go.sizeOf, typeInfo, hi, Builtin.lenOf, Builtin.firstCells]
  · simp [Builtin.append_, run_underlying ht, Go.sizeOf, typeInfo, hi, Builtin.lenOf, Builtin.firstCells, hnc, storeCells]
theorem e_appr (st : St w0 M hs w) (i : Nat) {T E size bytes m len c : Nat} {x y : Operand} {v z : Value} {oa : Option Addr} {xs l : List Value} {ti : TypeInfo} (hw : gd L kn g = some true) (hd : okDst n (some d) = true)
    (hx : evO kn x = some v) (hy : evO kn y = some (.slice oa m c)) (hi : nth hs i = some (.own v E size len xs)) (hsrc : RdRowC w oa l)
    (ht : P.underlying T = some (.slice E)) (hinfo : P.info? E = some ti) (hz : ti.zero = some z) (hsize : ti.size = size) (hby : ti.bytes = bytes) (hzs : z.cells.size = size) (hsz : Nat.blt 0 size = true)
    (hl : l.length = m * size) (h1 : ∀ u ∈ l, u.oneCell' = true) (h63 : len + m ≤ maxLen) (hbytes : (len + m) * bytes ≤ 140737488355328) {len' : Nat} {ys : List Value} (hlen' : len + m = len') (hys : xs ++ l = ys)
    (next : ∀ oa cap w', St w0 M (setNth hs i (.own (.slice oa len' cap) E size len' ys)) w' → vN n N ((d, .slice oa len' cap) :: kn) w') :
    vS P n L Q ⟨some d, .call ⟨.builtin .append, #[x, y], #[T, T]⟩, ty, pos, aft, g⟩ N kn w := by
  subst hlen' hys
  have hsz' : 0 < size := by simpa [Nat.blt_eq] using hsz
  have hown0 : w.ownsRow w0.heap.size E size v len xs := st.res hi
  obtain ⟨v', w', hr, hown, hg, hat, ⟨oa', cap, rfl⟩⟩ : ∃ v' w', (Builtin.append_ #[T, T] ty #[v, .slice oa m c]).run P w = .ok v' w' ∧ w'.ownsRow w0.heap.size E size v' (len + m) (xs ++ l) ∧ w.grownBy w' v.ownBlock ∧
      (v'.ownBlock = v.ownBlock ∨ v'.ownBlock = some w.heap.size) ∧ ∃ oa cap, v' = .slice oa (len + m) cap := by
    have hform : ∀ {v' : Value} {w' : World} {k : Nat} {ys : List Value}, w'.ownsRow w0.heap.size E size v' k ys → ∃ oa cap, v' = .slice oa k cap := by
      intro v' w' k ys hown
      rcases hown.2 with ⟨rfl, h0⟩ | ⟨g, cap, cur, rfl, _⟩
      · exact ⟨none, 0, by rw [h0]⟩
      · exact ⟨_, _, rfl⟩
    have key : ∀ a, oa = some a → (∀ k u, l[k]? = some u → w.cell? (a.add k) = some u) → ∃ v' w', (Builtin.append_ #[T, T] ty #[v, .slice oa m c]).run P w = .ok v' w' ∧ w'.ownsRow w0.heap.size E size v' (len + m) (xs ++ l) ∧ w.grownBy w' v.ownBlock ∧
      (v'.ownBlock = v.ownBlock ∨ v'.ownBlock = some w.heap.size) ∧ ∃ oa cap, v' = .slice oa (len + m) cap := by
      rintro a rfl hc
      obtain ⟨v', w', hr, hown, hg, hnil, hat⟩ := run_append_own_at (P := P) w w0.heap.size T ty E ti z size bytes ht hinfo hz hsize hby hzs hsz' v len xs hown0 a m c l hl
        (fun k u hk => hc k u hk) h1 h63 hbytes st.chg.size
      exact ⟨v', w', hr, hown, hg, hat, hform hown⟩
    rcases hsrc with rfl | ⟨a, ha, hc⟩
    · obtain rfl : m = 0 := by
        simp only [List.length_nil] at hl
        rcases Nat.eq_zero_or_pos m with h | h
        · exact h
        · have := Nat.mul_pos h hsz'; omega
      cases oa with
      | none => exact ⟨v, w, run_append_none' w0.heap.size T ty E ti size c ht hinfo v len xs hown0, by simpa using hown0, ⟨rfl, rfl, rfl, Nat.le_refl _, fun _ _ _ => rfl⟩, .inl rfl, hform hown0⟩
      | some a => exact key a rfl (fun k u hk => by simp at hk)
    · exact key a ha hc
  refine e_bi [v, .slice oa m c] hw hd (by simp [hx, hy]) (w' := w') (fun cs => ?_) (next oa' cap w' (st.app hi hg hown hat))
  simp only [builtin, Sem.run_bind, List.toArray, hr]
  rfl
theorem dcs_get : ∀ {ds : List Dc} {k : Nat} {u : Value}, (ds.flatMap dcL)[k]? = some u → ∃ j x i, ds[j]? = some x ∧ (dcL x)[i]? = some u ∧ k = j * 3 + i
  | [], k, u, h => by simp at h
  | x :: r, k, u, h => by
    rw [List.flatMap_cons] at h
    have h3 : (dcL x).length = 3 := rfl
    rcases Nat.lt_or_ge k 3 with hk | hk
    · rw [List.getElem?_append_left (by omega)] at h
      exact ⟨0, x, k, rfl, h, by omega⟩
    · rw [List.getElem?_append_right (by omega), h3] at h
      obtain ⟨j, y, i, h1, h2, h3⟩ := dcs_get h
      exact ⟨j + 1, y, i, by simpa using h1, h2, by omega⟩
theorem DcRow.rd {S : Nat → Prop} {oa : Option Addr} {ds : List Dc} (h : DcRow w S oa ds) : RdRowC w oa (ds.flatMap dcL) := by
  rcases h with h | ⟨b, off, rfl, hb, hl, hc⟩
  · exact .inl (by rw [List.eq_nil_of_length_eq_zero h]; rfl)
  · refine .inr ⟨_, rfl, fun k u hk => ?_⟩
    obtain ⟨j, x, i, h1, h2, rfl⟩ := dcs_get hk
    have hj := (List.getElem?_eq_some_iff.1 h1).1
    have := (hc j hj).2
    simp only [List.getD, h1, Option.getD_some] at this
    rw [addr_add, ← Nat.add_assoc]
    exact this i u h2
theorem dcs_len (ds : List Dc) : (ds.flatMap dcL).length = ds.length * 3 := by
  induction ds with
  | nil => rfl
  | cons x r ih => rw [List.flatMap_cons, List.length_append, ih]; simp [dcL]; omega
theorem dcs_one (ds : List Dc) : ∀ u ∈ ds.flatMap dcL, u.oneCell' = true := by
  intro u hu
  obtain ⟨x, _, hx⟩ := List.mem_flatMap.1 hu
  simp only [dcL, List.mem_cons, List.not_mem_nil, or_false] at hx
  rcases hx with rfl | rfl | rfl <;> rfl
/-- the owned row at 'i' is done: it is a tree with what hangs on it -/
theorem St.ownNw (st : St w0 M hs w) {i : Nat} {E size len cap : Nat} {oa : Option Addr} {xs : List Value} (hi : nth hs i = some (.own (.slice oa len cap) E size len xs)) : w.ownsRow 0 E size (.slice oa len cap) len xs ∧ Nw w0.heap.size (obk oa) := by
  have h : w.ownsRow w0.heap.size E size (.slice oa len cap) len xs := st.res hi
  refine ⟨owns_mono h (fun b _ => Nat.zero_le _), ?_, fun b hb => (owns_lt h b hb).1⟩
  cases oa <;> simp [obk]
/-- the first 'n' become one -/
theorem St.joinN (st : St w0 M hs w) (n : Nat) {q : Res} (hat : ∀ k ∈ q.at?, ∃ r ∈ hs.take n, k ∈ r.at?) (hq : q.holds w0.heap.size w) : St w0 M (q :: hs.drop n) w := by
  have hnd := st.nodup
  unfold Apart at hnd
  rw [← List.take_append_drop n hs, List.pairwise_append] at hnd
  obtain ⟨h1, h2, h3⟩ := hnd
  refine ⟨st.chg, List.pairwise_cons.2 ⟨fun x hx k hk hk' => ?_, h2⟩, fun x hx => ?_⟩
  · obtain ⟨r, hr, hkr⟩ := hat k hk
    exact h3 r hr x hx k hkr hk'
  · rcases List.mem_cons.1 hx with rfl | h
    · exact hq
    · exact st.here x (List.mem_of_mem_drop h)
/-- what two resources lie at is apart -/
theorem St.ne (st : St w0 M hs w) {i j : Nat} {r s : Res} (hij : i ≠ j) (hi : nth hs i = some r) (hj : nth hs j = some s) : ∀ k ∈ r.at?, k ∉ s.at? := apart_nth st.nodup hij hi hj
end
end Sx


/- The engine, twenty-first part: trees that are written over in their own places. -/
namespace Sx
open Go Go.RowKit
set_option linter.unusedVariables false
set_option linter.unusedSimpArgs false

/-- a row of things, each with what hangs on it -/
def RowS {α : Type} (V : World → α → List Value → List Nat → Prop) (w : World) : List α → List Value → List Nat → Prop
  | [], xs, S => xs = [] ∧ S = []
  | e :: r, xs, S => ∃ v S1 xr Sr, xs = v ++ xr ∧ S = S1 ++ Sr ∧ V w e v S1 ∧ RowS V w r xr Sr
theorem exSs_row {tE : Nat} {w : World} : ∀ {es : List Ex} {xs : List Value} {S : List Nat}, ExSs tE w es xs S ↔ RowS (ExS tE) w es xs S
  | [], xs, S => by simp only [ExSs, RowS]
  | e :: r, xs, S => by simp only [ExSs, RowS, exSs_row (es := r)]
theorem smSs_row {tE tS : Nat} {w : World} : ∀ {es : List Sm} {xs : List Value} {S : List Nat}, SmSs tE tS w es xs S ↔ RowS (SmS tE tS) w es xs S
  | [], xs, S => by simp only [SmSs, RowS]
  | e :: r, xs, S => by simp only [SmSs, RowS, smSs_row (es := r)]
theorem thSs_row {tE tS tD : Nat} {w : World} : ∀ {es : List Th} {xs : List Value} {S : List Nat}, ThSs tE tS tD w es xs S ↔ RowS (ThS tE tS tD) w es xs S
  | [], xs, S => by simp only [ThSs, RowS]
  | e :: r, xs, S => by simp only [ThSs, RowS, thSs_row (es := r)]
section
variable {α : Type} {V : World → α → List Value → List Nat → Prop} {w w' : World} {sz : Nat}
theorem RowS.kept (hV : ∀ w w' x v S, V w x v S → (∀ b ∈ S, w'.heap[b]? = w.heap[b]?) → V w' x v S) : ∀ {es : List α} {xs : List Value} {S : List Nat}, RowS V w es xs S → (∀ b ∈ S, w'.heap[b]? = w.heap[b]?) → RowS V w' es xs S
  | [], xs, S, h, hk => h
  | e :: r, xs, S, h, hk => by
    obtain ⟨v, S1, xr, Sr, rfl, rfl, h1, h2⟩ := h
    exact ⟨v, S1, xr, Sr, rfl, rfl, hV _ _ _ _ _ h1 (fun b hb => hk b (List.mem_append.2 (.inl hb))), RowS.kept hV h2 (fun b hb => hk b (List.mem_append.2 (.inr hb)))⟩
/-- one of a row looked at; and another put in its place -/
theorem RowS.focus (hlen : ∀ w x v S, V w x v S → v.length = sz) (hV : ∀ w w' x v S, V w x v S → (∀ b ∈ S, w'.heap[b]? = w.heap[b]?) → V w' x v S) : ∀ {es : List α} {xs : List Value} {S : List Nat} {j : Nat} {e : α}, RowS V w es xs S → es[j]? = some e →
    ∃ v Sj S1 S2 xa xb, xs = xa ++ v ++ xb ∧ xa.length = j * sz ∧ S = S1 ++ Sj ++ S2 ∧ V w e v Sj ∧
      ∀ (w' : World) (e' : α) (v' : List Value), V w' e' v' Sj → (∀ b ∈ S1 ++ S2, w'.heap[b]? = w.heap[b]?) → RowS V w' (es.set j e') (xa ++ v' ++ xb) S
  | [], xs, S, j, e, h, hj => by simp at hj
  | x :: r, xs, S, 0, e, h, hj => by
    obtain ⟨v, S1, xr, Sr, rfl, rfl, h1, h2⟩ := h
    simp only [List.getElem?_cons_zero, Option.some.injEq] at hj
    subst hj
    refine ⟨v, S1, [], Sr, [], xr, by simp, by simp, by simp, h1, fun w' e' v' hv' hk => ?_⟩
    refine ⟨v', S1, xr, Sr, by simp, rfl, hv', RowS.kept hV h2 fun b hb => hk b (by simpa using hb)⟩
  | x :: r, xs, S, j + 1, e, h, hj => by
    obtain ⟨v, S1, xr, Sr, rfl, rfl, h1, h2⟩ := h
    obtain ⟨u, Sj, T1, T2, xa, xb, rfl, h3, rfl, h4, h5⟩ := RowS.focus hlen hV h2 (by simpa using hj)
    refine ⟨u, Sj, S1 ++ T1, T2, v ++ xa, xb, by simp, by rw [List.length_append, hlen _ _ _ _ h1, h3, Nat.succ_mul]; omega, by simp, h4, fun w' e' v' hv' hk => ?_⟩
    refine ⟨v, S1, xa ++ v' ++ xb, T1 ++ Sj ++ T2, by simp, by simp, hV _ _ _ _ _ h1 fun b hb => hk b (by simp [hb]), ?_⟩
    exact h5 w' e' v' hv' fun b hb => hk b (by simp only [List.mem_append] at hb ⊢; rcases hb with h | h; exact .inl (.inr h); exact .inr h)
/-- a row in a block of its own -/
def RowT {α : Type} (V : World → α → List Value → List Nat → Prop) (E sz : Nat) (w : World) (oa : Option Addr) (cap : Nat) (es : List α) (S : List Nat) : Prop := ∃ xs S', w.ownsRow 0 E sz (.slice oa es.length cap) es.length xs ∧ S = obk oa ++ S' ∧ RowS V w es xs S'
/-- the cells of one; a cell of it stored; what hangs on it turned -/
theorem RowT.focus {E : Nat} (hsz : 0 < sz) (hlen : ∀ w x v S, V w x v S → v.length = sz) (hV : ∀ w w' x v S, V w x v S → (∀ b ∈ S, w'.heap[b]? = w.heap[b]?) → V w' x v S) {oa : Option Addr} {cap : Nat} {es : List α} {S : List Nat} {j : Nat} {e : α} (h : RowT V E sz w oa cap es S) (hS : S.Nodup) (hj : es[j]? = some e) :
    ∃ b v Sj S1 S2, oa = some ⟨b, 0, none⟩ ∧ b < w.heap.size ∧ S = [b] ++ (S1 ++ Sj ++ S2) ∧ V w e v Sj ∧ (∀ i u, v[i]? = some u → w.cell? ⟨b, j * sz + i, none⟩ = some u) ∧ (∀ i, w.frozen? ⟨b, i, none⟩ = false) ∧
      (∀ (i : Nat) (u : Value) (e' : α), i < sz → V w e' (v.set i u) Sj → RowT V E sz (w.setCell ⟨b, j * sz + i, none⟩ u) oa cap (es.set j e') S) ∧
      (∀ (w' : World) (e' : α), V w' e' v Sj → w.heap.size ≤ w'.heap.size → (∀ k, k < w.heap.size → k ∉ Sj → w'.heap[k]? = w.heap[k]?) → (∀ k ∈ S, k < w.heap.size) → RowT V E sz w' oa cap (es.set j e') S) := by
  obtain ⟨xs, S', ho, rfl, hr⟩ := h
  obtain ⟨v, Sj, S1, S2, xa, xb, rfl, hxa, rfl, hv, hput⟩ := RowS.focus hlen hV hr hj
  have hjl := (List.getElem?_eq_some_iff.1 hj).1
  obtain ⟨b, c, e0, -⟩ := own_form ho (by omega)
  simp only [Value.slice.injEq] at e0
  obtain ⟨rfl, -, rfl⟩ := e0
  have hvl := hlen _ _ _ _ hv
  have hnd := List.nodup_append.1 hS
  have hbn : b ∉ S1 ++ Sj ++ S2 := fun hb => hnd.2.2 b (by simp [obk]) b hb rfl
  have hSj : ∀ k ∈ Sj, k ∉ S1 ++ S2 := by
    have h2 := hnd.2.1
    rw [List.nodup_append, List.nodup_append] at h2
    obtain ⟨⟨-, -, q1⟩, -, q2⟩ := h2
    intro k hk hk'
    rcases List.mem_append.1 hk' with h | h
    · exact q1 k h k hk rfl
    · exact q2 k (List.mem_append.2 (.inr hk)) k h rfl
  refine ⟨b, v, Sj, S1, S2, rfl, (owns_lt ho b (by simp [obk])).2, rfl, hv, fun i u hi => ?_, fun i => World.ownsRow.frozenAt ho i, fun i u e' hi hv' => ?_, fun w' e' hv' hle hk hlt => ?_⟩
  · have hil := (List.getElem?_eq_some_iff.1 hi).1
    refine own_cell ho ?_
    rw [List.append_assoc, List.getElem?_append_right (by omega), hxa, Nat.add_sub_cancel_left, List.getElem?_append_left hil]
    exact hi
  · have hst := World.ownsRow.stored ho (j * sz + i) u
    refine ⟨xa ++ v.set i u ++ xb, S1 ++ Sj ++ S2, ?_, rfl, ?_⟩
    · rw [List.length_set]
      have e1 : (xa ++ v ++ xb).set (j * sz + i) u = xa ++ v.set i u ++ xb := by
        rw [List.append_assoc, List.set_append_right _ _ (by omega), hxa, Nat.add_sub_cancel_left, List.set_append_left _ _ (by omega), ← List.append_assoc]
      rw [← e1]
      exact hst.1
    · have same : ∀ k ∈ S1 ++ Sj ++ S2, (w.setCell ⟨b, j * sz + i, none⟩ u).heap[k]? = w.heap[k]? := fun k hk => Below.heap_setCell w _ u k (by rintro rfl; exact hbn hk)
      exact hput _ e' _ (hV _ _ _ _ _ hv' fun k hk => same k (by simp [hk])) fun k hk => same k (by simp only [List.mem_append] at hk ⊢; rcases hk with h | h; exact .inl (.inl h); exact .inr h)
  · have same : ∀ k ∈ [b] ++ (S1 ++ S2), w'.heap[k]? = w.heap[k]? := fun k hkm => by
      have hin : k ∈ obk (some (⟨b, 0, none⟩ : Addr)) ++ (S1 ++ Sj ++ S2) := by
        simp only [obk, List.mem_append, List.mem_singleton] at hkm ⊢
        rcases hkm with h | h | h
        · exact .inl h
        · exact .inr (.inl (.inl h))
        · exact .inr (.inr h)
      refine hk k (hlt k hin) fun hkj => ?_
      simp only [List.mem_append, List.mem_singleton] at hkm
      rcases hkm with rfl | h
      · exact hbn (by simp [hkj])
      · exact hSj k hkj (by simpa using h)
    refine ⟨xa ++ v ++ xb, S1 ++ Sj ++ S2, ?_, rfl, ?_⟩
    · rw [List.length_set]
      exact owns_kept ho fun k hk => same k (by simp [obk] at hk; simp [hk])
    · exact hput w' e' v hv' fun k hk => same k (by simp at hk ⊢; exact .inr hk)
end
theorem exR_row {tE : Nat} {w : World} {oa : Option Addr} {cap : Nat} {es : List Ex} {S : List Nat} : ExR tE w oa cap es S ↔ RowT (ExS tE) tE 6 w oa cap es S := by
  simp only [ExR, RowT, exSs_row]
theorem smR_row {tE tS : Nat} {w : World} {oa : Option Addr} {cap : Nat} {es : List Sm} {S : List Nat} : SmR tE tS w oa cap es S ↔ RowT (SmS tE tS) tS 7 w oa cap es S := by
  simp only [SmR, RowT, smSs_row]
theorem thR_row {tE tS tD tT : Nat} {w : World} {oa : Option Addr} {cap : Nat} {es : List Th} {S : List Nat} : ThR tE tS tD tT w oa cap es S ↔ RowT (ThS tE tS tD) tT 4 w oa cap es S := by
  simp only [ThR, RowT, thSs_row]

section
variable {w0 w w' : World} {M : List Nat} {hs : List Res}
variable {P : Program} {n : Fr} {L : List Oper} {Q : Exit → Act → World → Prop} {kn : Kn} {N : Act → World → Prop}
variable {d ty : Nat} {pos : String} {aft : Array Edge} {g : Option (Nat × Bool)}
/-- a store into a tree that is held -/
theorem e_stT (st : St w0 M hs w) (i : Nat) {x y : Operand} {T b off : Nat} {v : Value} {S : List Nat} {φ ψ : World → Prop} (hw : gd L kn g = some true) (hx : evO kn x = some (.pointer (some ⟨b, off, none⟩)))
    (hy : evO kn y = some v) (h1 : v.oneCell' = true) (hsz : ∀ w, (Go.sizeOf T).run P w = .ok 1 w) (hi : nth hs i = some (.tree S φ)) (hb : b ∈ S) (hm : b ∈ M ∨ w0.heap.size ≤ b)
    (hc : ∃ u, w.cell? ⟨b, off, none⟩ = some u) (hf : w.frozen? ⟨b, off, none⟩ = false) (hψ : ψ (w.setCell ⟨b, off, none⟩ v)) (hψl : Loc S ψ)
    (next : ∀ w', St w0 M (setNth hs i (.tree S ψ)) w' → vN n N kn w') : vS P n L Q (⟨none, .store T x y, ty, pos, aft, g⟩) N kn w := by
  obtain ⟨u, hc⟩ := hc
  have hcs : v.cells = #[v] := by cases v <;> first | rfl | (simp [Value.oneCell'] at h1)
  have hc9 := Chg.setCell w ⟨b, off, none⟩ v
  have hlt : ∀ k ∈ S, k < w.heap.size := (st.res hi).2.1
  refine e_do hw rfl (w' := w.setCell ⟨b, off, none⟩ v) (fun a ha => ?_) (next _ (st.swap hi hc9 (fun k hk => by simp at hk; subst hk; exact hb) (fun k hk => by simp at hk; subst hk; exact hm) (fun k hk => .inl hk) ⟨hψ, fun k hk => Nat.lt_of_lt_of_le (hlt k hk) hc9.size, hψl⟩))
  simp only [execOp, ha.ev hx, ha.ev hy]
  have hst : (store ⟨b, off, none⟩ v).run P w = .ok () (w.setCell ⟨b, off, none⟩ v) := by
    cases v <;> first | (simp [Value.oneCell'] at h1; done) | simp [store, Sem.run, hc, hf]
  have key : (storeVar T ⟨b, off, none⟩ v).run P w = .ok () (w.setCell ⟨b, off, none⟩ v) := by
    simp only [storeVar, Sem.run_bind, hsz, Result.andThen_ok, hcs]
    simp [storeCells, addr_add0, hst]
  simp only [Instr.storeAt, Instr.sureAddr, Sem.run_bind, Sem.run_pure, Result.andThen_ok, key]
end
end Sx


/- The engine, twenty-third part: the rows of the language's trees, one of a row written over. -/
namespace Sx
open Go Go.RowKit
set_option linter.unusedVariables false
set_option linter.unusedSimpArgs false
def Ex.setNm (s : List UInt8) : Ex → Ex | .mk k op wd _ kids a => .mk k op wd s kids a
def Ex.setAt (a : Int) : Ex → Ex | .mk k op wd nm kids _ => .mk k op wd nm kids a
def Ex.setKids (kids : List Ex) : Ex → Ex | .mk k op wd nm _ a => .mk k op wd nm kids a
def Sm.setNm (s : List UInt8) : Sm → Sm | .mk k _ o e b l a => .mk k s o e b l a
def Sm.setOther (s : List UInt8) : Sm → Sm | .mk k n _ e b l a => .mk k n s e b l a
def Sm.setE (x : List Ex) : Sm → Sm | .mk k n o _ b l a => .mk k n o x b l a
def Sm.setBody (x : List Sm) : Sm → Sm | .mk k n o e _ l a => .mk k n o e x l a
def Sm.setEls (x : List Sm) : Sm → Sm | .mk k n o e b _ a => .mk k n o e b x a
def Sm.setAt (a : Int) : Sm → Sm | .mk k n o e b l _ => .mk k n o e b l a
def Th.setNm (s : List UInt8) (t : Th) : Th := { t with nm := s }
def Th.setAt (a : Int) (t : Th) : Th := { t with a := a }
def Th.setLocals (l : List Dc) (t : Th) : Th := { t with locals := l }
def Th.setBody (b : List Sm) (t : Th) : Th := { t with body := b }
section
variable {tE tS tD tT : Nat} {w w' : World}
/-- what a row's block is: it is there, not frozen, and of the tree -/
structure RowAt (w : World) (b : Nat) (S : List Nat) : Prop where
  mem : b ∈ S
  lt : b < w.heap.size
  fz : ∀ i, w.frozen? ⟨b, i, none⟩ = false
/-! ### expressions -/
theorem exR_focus {oa : Option Addr} {cap : Nat} {es : List Ex} {S : List Nat} {j : Nat} {e : Ex} (h : ExR tE w oa cap es S) (hS : S.Nodup) (hj : es[j]? = some e) :
    ∃ b o c Sj, oa = some ⟨b, 0, none⟩ ∧ RowAt w b S ∧ (∀ i u, ([.int .u8 e.k, .int .u8 e.op, .int .i64 e.wd, str e.nm, .slice o e.kids.length c, .int .i64 e.a] : List Value)[i]? = some u → w.cell? ⟨b, j * 6 + i, none⟩ = some u) ∧ ExR tE w o c e.kids Sj ∧ Sj.Nodup ∧ (∀ k ∈ Sj, k ∈ S) ∧
      (∀ s, ExR tE (w.setCell ⟨b, j * 6 + 3, none⟩ (str s)) oa cap (es.set j (e.setNm s)) S) ∧ (∀ a, ExR tE (w.setCell ⟨b, j * 6 + 5, none⟩ (.int .i64 a)) oa cap (es.set j (e.setAt a)) S) ∧
      (∀ (w' : World) kids, kids.length = e.kids.length → ExR tE w' o c kids Sj → Chg Sj w w' → ExR tE w' oa cap (es.set j (e.setKids kids)) S) := by
  have hlt : ∀ k ∈ S, k < w.heap.size := h.lt
  obtain ⟨b, v, Sj, S1, S2, ho, hbl, hSe, hv, hcell, hfz, hset, hsub⟩ := RowT.focus (V := ExS tE) (by omega) (fun w x v S h => h.len) (fun w w' x v S h hk => h.kept hk) (exR_row.1 h) hS hj
  obtain ⟨o, c, rfl, hk⟩ := ExS_iff.1 hv
  subst hSe
  have hSj : Sj.Nodup := by
    have := (List.nodup_append.1 hS).2.1
    exact (List.nodup_append.1 (List.nodup_append.1 this).1).2.1
  refine ⟨b, o, c, Sj, ho, ⟨by simp, hbl, hfz⟩, hcell, hk, hSj, fun k hk => by simp [hk], fun s => ?_, fun a => ?_, fun w' kids hl hk' hc => ?_⟩
  · refine exR_row.2 (hset 3 _ _ (by omega) (ExS_iff.2 ?_))
    cases e; exact ⟨o, c, rfl, hk⟩
  · refine exR_row.2 (hset 5 _ _ (by omega) (ExS_iff.2 ?_))
    cases e; exact ⟨o, c, rfl, hk⟩
  · refine exR_row.2 (hsub w' _ (ExS_iff.2 ?_) hc.size (fun k hk hn => hc.block k hk hn) hlt)
    cases e with
    | mk k op wd nm ks a =>
      simp only [Ex.kids] at hl
      refine ⟨o, c, ?_, hk'⟩
      simp only [Ex.setKids, Ex.k, Ex.op, Ex.wd, Ex.nm, Ex.kids, Ex.a, hl]
/-! ### statements -/
theorem smR_focus {oa : Option Addr} {cap : Nat} {es : List Sm} {S : List Nat} {j : Nat} {e : Sm} (h : SmR tE tS w oa cap es S) (hS : S.Nodup) (hj : es[j]? = some e) :
    ∃ b oe ce ob cb ol cl Se Sb Sl, oa = some ⟨b, 0, none⟩ ∧ RowAt w b S ∧ (∀ i u, ([.int .u8 e.k, str e.nm, str e.other, .slice oe e.e.length ce, .slice ob e.body.length cb, .slice ol e.els.length cl, .int .i64 e.a] : List Value)[i]? = some u → w.cell? ⟨b, j * 7 + i, none⟩ = some u) ∧
      ExR tE w oe ce e.e Se ∧ SmR tE tS w ob cb e.body Sb ∧ SmR tE tS w ol cl e.els Sl ∧ Se.Nodup ∧ Sb.Nodup ∧ Sl.Nodup ∧ (∀ k ∈ Se, k ∈ S) ∧ (∀ k ∈ Sb, k ∈ S) ∧ (∀ k ∈ Sl, k ∈ S) ∧
      (∀ s, SmR tE tS (w.setCell ⟨b, j * 7 + 1, none⟩ (str s)) oa cap (es.set j (e.setNm s)) S) ∧ (∀ s, SmR tE tS (w.setCell ⟨b, j * 7 + 2, none⟩ (str s)) oa cap (es.set j (e.setOther s)) S) ∧ (∀ a, SmR tE tS (w.setCell ⟨b, j * 7 + 6, none⟩ (.int .i64 a)) oa cap (es.set j (e.setAt a)) S) ∧
      (∀ (w' : World) x, x.length = e.e.length → ExR tE w' oe ce x Se → Chg Se w w' → SmR tE tS w' oa cap (es.set j (e.setE x)) S) ∧
      (∀ (w' : World) x, x.length = e.body.length → SmR tE tS w' ob cb x Sb → Chg Sb w w' → SmR tE tS w' oa cap (es.set j (e.setBody x)) S) ∧
      (∀ (w' : World) x, x.length = e.els.length → SmR tE tS w' ol cl x Sl → Chg Sl w w' → SmR tE tS w' oa cap (es.set j (e.setEls x)) S) := by
  have hlt : ∀ k ∈ S, k < w.heap.size := h.lt
  obtain ⟨b, v, Sj, S1, S2, ho, hbl, hSe, hv, hcell, hfz, hset, hsub⟩ := RowT.focus (V := SmS tE tS) (by omega) (fun w x v S h => h.len) (fun w w' x v S h hk => h.kept hk) (smR_row.1 h) hS hj
  obtain ⟨oe, ce, ob, cb, ol, cl, Se, Sb, Sl, rfl, he, hb, hl, rfl⟩ := SmS_iff.1 hv
  subst hSe
  have hn1 := (List.nodup_append.1 (List.nodup_append.1 (List.nodup_append.1 hS).2.1).1).2.1
  obtain ⟨ne, hn2, d1⟩ := List.nodup_append.1 hn1
  obtain ⟨nb, nl, d2⟩ := List.nodup_append.1 hn2
  have len2 : ∀ {A B : List Nat}, (∀ a ∈ A, ∀ b ∈ B, a ≠ b) → ∀ k ∈ B, k ∉ A := fun h k hk hk' => h k hk' k hk rfl
  refine ⟨b, oe, ce, ob, cb, ol, cl, Se, Sb, Sl, ho, ⟨by simp, hbl, hfz⟩, hcell, he, hb, hl, ne, nb, nl, fun k hk => by simp [hk], fun k hk => by simp [hk], fun k hk => by simp [hk], fun s => ?_, fun s => ?_, fun a => ?_, fun w' x hx hx' hc => ?_, fun w' x hx hx' hc => ?_, fun w' x hx hx' hc => ?_⟩
  · refine smR_row.2 (hset 1 _ _ (by omega) (SmS_iff.2 ?_))
    cases e; exact ⟨oe, ce, ob, cb, ol, cl, Se, Sb, Sl, rfl, he, hb, hl, rfl⟩
  · refine smR_row.2 (hset 2 _ _ (by omega) (SmS_iff.2 ?_))
    cases e; exact ⟨oe, ce, ob, cb, ol, cl, Se, Sb, Sl, rfl, he, hb, hl, rfl⟩
  · refine smR_row.2 (hset 6 _ _ (by omega) (SmS_iff.2 ?_))
    cases e; exact ⟨oe, ce, ob, cb, ol, cl, Se, Sb, Sl, rfl, he, hb, hl, rfl⟩
  · have hb' := hb.kept (w' := w') fun k hk => hc.block k (hb.lt k hk) (fun hk' => d1 k hk' k (by simp [hk]) rfl)
    have hl' := hl.kept (w' := w') fun k hk => hc.block k (hl.lt k hk) (fun hk' => d1 k hk' k (by simp [hk]) rfl)
    refine smR_row.2 (hsub w' _ (SmS_iff.2 ?_) hc.size (fun k hk hn => hc.block k hk (fun h => hn (by simp [h]))) hlt)
    cases e with
    | mk k nm other xe bd el a =>
      simp only [Sm.e] at hx
      refine ⟨oe, ce, ob, cb, ol, cl, Se, Sb, Sl, ?_, hx', hb', hl', rfl⟩
      simp only [Sm.setE, Sm.k, Sm.nm, Sm.other, Sm.e, Sm.body, Sm.els, Sm.a, hx]
  · have he' := he.kept (w' := w') fun k hk => hc.block k (he.lt k hk) (fun hk' => d1 k hk k (by simp [hk']) rfl)
    have hl' := hl.kept (w' := w') fun k hk => hc.block k (hl.lt k hk) (fun hk' => d2 k hk' k hk rfl)
    refine smR_row.2 (hsub w' _ (SmS_iff.2 ?_) hc.size (fun k hk hn => hc.block k hk (fun h => hn (by simp [h]))) hlt)
    cases e with
    | mk k nm other xe bd el a =>
      simp only [Sm.body] at hx
      refine ⟨oe, ce, ob, cb, ol, cl, Se, Sb, Sl, ?_, he', hx', hl', rfl⟩
      simp only [Sm.setBody, Sm.k, Sm.nm, Sm.other, Sm.e, Sm.body, Sm.els, Sm.a, hx]
  · have he' := he.kept (w' := w') fun k hk => hc.block k (he.lt k hk) (fun hk' => d1 k hk k (by simp [hk']) rfl)
    have hb' := hb.kept (w' := w') fun k hk => hc.block k (hb.lt k hk) (fun hk' => d2 k hk k hk' rfl)
    refine smR_row.2 (hsub w' _ (SmS_iff.2 ?_) hc.size (fun k hk hn => hc.block k hk (fun h => hn (by simp [h]))) hlt)
    cases e with
    | mk k nm other xe bd el a =>
      simp only [Sm.els] at hx
      refine ⟨oe, ce, ob, cb, ol, cl, Se, Sb, Sl, ?_, he', hb', hx', rfl⟩
      simp only [Sm.setEls, Sm.k, Sm.nm, Sm.other, Sm.e, Sm.body, Sm.els, Sm.a, hx]
/-! ### threads -/
theorem thR_focus {oa : Option Addr} {cap : Nat} {es : List Th} {S : List Nat} {j : Nat} {e : Th} (h : ThR tE tS tD tT w oa cap es S) (hS : S.Nodup) (hj : es[j]? = some e) :
    ∃ b ol cl ob cb Sl Sb, oa = some ⟨b, 0, none⟩ ∧ RowAt w b S ∧ (∀ i u, ([str e.nm, .slice ol e.locals.length cl, .slice ob e.body.length cb, .int .i64 e.a] : List Value)[i]? = some u → w.cell? ⟨b, j * 4 + i, none⟩ = some u) ∧
      DcR tD w ol cl e.locals Sl ∧ SmR tE tS w ob cb e.body Sb ∧ Sl.Nodup ∧ Sb.Nodup ∧ (∀ k ∈ Sl, k ∈ S) ∧ (∀ k ∈ Sb, k ∈ S) ∧
      (∀ s, ThR tE tS tD tT (w.setCell ⟨b, j * 4 + 0, none⟩ (str s)) oa cap (es.set j (e.setNm s)) S) ∧ (∀ a, ThR tE tS tD tT (w.setCell ⟨b, j * 4 + 3, none⟩ (.int .i64 a)) oa cap (es.set j (e.setAt a)) S) ∧
      (∀ (w' : World) x, x.length = e.locals.length → DcR tD w' ol cl x Sl → Chg Sl w w' → ThR tE tS tD tT w' oa cap (es.set j (e.setLocals x)) S) ∧
      (∀ (w' : World) x, x.length = e.body.length → SmR tE tS w' ob cb x Sb → Chg Sb w w' → ThR tE tS tD tT w' oa cap (es.set j (e.setBody x)) S) := by
  have hlt : ∀ k ∈ S, k < w.heap.size := h.lt
  obtain ⟨b, v, Sj, S1, S2, ho, hbl, hSe, hv, hcell, hfz, hset, hsub⟩ := RowT.focus (V := ThS tE tS tD) (by omega) (fun w x v S h => h.len) (fun w w' x v S h hk => h.kept hk) (thR_row.1 h) hS hj
  obtain ⟨ol, cl, ob, cb, Sl, Sb, rfl, hl, hb, rfl⟩ := hv
  subst hSe
  have hn1 := (List.nodup_append.1 (List.nodup_append.1 (List.nodup_append.1 hS).2.1).1).2.1
  obtain ⟨nl, nb, d1⟩ := List.nodup_append.1 hn1
  refine ⟨b, ol, cl, ob, cb, Sl, Sb, ho, ⟨by simp, hbl, hfz⟩, hcell, hl, hb, nl, nb, fun k hk => by simp [hk], fun k hk => by simp [hk], fun s => ?_, fun a => ?_, fun w' x hx hx' hc => ?_, fun w' x hx hx' hc => ?_⟩
  · exact thR_row.2 (hset 0 _ _ (by omega) ⟨ol, cl, ob, cb, Sl, Sb, rfl, hl, hb, rfl⟩)
  · exact thR_row.2 (hset 3 _ _ (by omega) ⟨ol, cl, ob, cb, Sl, Sb, rfl, hl, hb, rfl⟩)
  · have hb' := hb.kept (w' := w') fun k hk => hc.block k (hb.lt k hk) (fun hk' => d1 k hk' k hk rfl)
    refine thR_row.2 (hsub w' (e.setLocals x) ⟨ol, cl, ob, cb, Sl, Sb, ?_, hx', hb', rfl⟩ hc.size (fun k hk hn => hc.block k hk (fun h => hn (by simp [h]))) hlt)
    simp only [Th.setLocals, hx]
  · have hl' := hl.kept (w' := w') fun k hk => hc.block k (hl.lt k hk) (fun hk' => d1 k hk k hk' rfl)
    refine thR_row.2 (hsub w' (e.setBody x) ⟨ol, cl, ob, cb, Sl, Sb, ?_, hl', hx', rfl⟩ hc.size (fun k hk hn => hc.block k hk (fun h => hn (by simp [h]))) hlt)
    simp only [Th.setBody, hx]
/-! ### declarations -/
theorem dcs_set {ds : List Dc} {j i : Nat} {d : Dc} {u : Value} {d' : Dc} (hj : ds[j]? = some d) (hi : i < 3) (he : (dcL d).set i u = dcL d') : (ds.flatMap dcL).set (j * 3 + i) u = (ds.set j d').flatMap dcL := by
  induction ds generalizing j with
  | nil => simp at hj
  | cons x r ih =>
    rw [List.flatMap_cons]
    have h3 : (dcL x).length = 3 := rfl
    cases j with
    | zero =>
      simp only [List.getElem?_cons_zero, Option.some.injEq] at hj
      subst hj
      rw [show 0 * 3 + i = i by omega, List.set_append_left _ _ (by omega), he]; rfl
    | succ j =>
      rw [show (j + 1) * 3 + i = (dcL x).length + (j * 3 + i) by omega, List.set_append_right _ _ (by omega), Nat.add_sub_cancel_left, ih (by simpa using hj)]; rfl
theorem dcR_focus {oa : Option Addr} {cap : Nat} {es : List Dc} {S : List Nat} {j : Nat} {e : Dc} (h : DcR tD w oa cap es S) (hj : es[j]? = some e) :
    ∃ b, oa = some ⟨b, 0, none⟩ ∧ RowAt w b S ∧ (∀ i u, (dcL e)[i]? = some u → w.cell? ⟨b, j * 3 + i, none⟩ = some u) ∧
      (∀ s, DcR tD (w.setCell ⟨b, j * 3 + 0, none⟩ (str s)) oa cap (es.set j { e with nm := s }) S) ∧ (∀ a, DcR tD (w.setCell ⟨b, j * 3 + 2, none⟩ (.int .i64 a)) oa cap (es.set j { e with a := a }) S) := by
  obtain ⟨ho, rfl⟩ := h
  have hjl := (List.getElem?_eq_some_iff.1 hj).1
  obtain ⟨b, c, e0, -⟩ := own_form ho (by omega)
  simp only [Value.slice.injEq] at e0
  obtain ⟨rfl, -, rfl⟩ := e0
  have put : ∀ (i : Nat) (u : Value) (e' : Dc), i < 3 → (dcL e).set i u = dcL e' → DcR tD (w.setCell ⟨b, j * 3 + i, none⟩ u) (some ⟨b, 0, none⟩) cap (es.set j e') (obk (some ⟨b, 0, none⟩)) := fun i u e' hi he => by
    have hst := (World.ownsRow.stored ho (j * 3 + i) u).1
    rw [dcs_set hj hi he] at hst
    refine ⟨?_, rfl⟩
    rw [List.length_set]; exact hst
  refine ⟨b, rfl, ⟨by simp [obk], (owns_lt ho b (by simp [obk])).2, fun i => World.ownsRow.frozenAt ho i⟩, fun i u hi => ?_, fun s => put 0 _ _ (by omega) rfl, fun a => put 2 _ _ (by omega) rfl⟩
  have hr := rowC_own (S := fun _ => True) ho (fun _ _ => trivial)
  rcases hr with h0 | ⟨b', off, e1, -, -, hc⟩
  · omega
  · simp only [Option.some.injEq, Addr.mk.injEq, and_true] at e1
    obtain ⟨rfl, rfl⟩ := e1
    have := (hc j hjl).2 i u (by dsimp only; rw [dcs_chunk hj]; exact hi)
    rwa [Nat.zero_add] at this
end
/-- a tree that may be written over, and what is read beside it -/
theorem St.two {w : World} {S E : List Nat} {φ ψ : World → Prop} (h1 : φ w) (h2 : ψ w) (l1 : ∀ b ∈ S, b < w.heap.size) (l2 : ∀ b ∈ E, b < w.heap.size) (k1 : Sx.Loc S φ) (k2 : Sx.Loc E ψ) (hd : ∀ b ∈ S, b ∉ E) : St w S [.tree S φ, .tree E ψ] w :=
  ⟨Chg.refl _ _, List.pairwise_cons.2 ⟨fun x hx k hk hk' => by
    simp only [List.mem_singleton] at hx
    subst hx
    exact hd k hk hk', List.pairwise_singleton _ _⟩, by
    intro r hr
    simp only [List.mem_cons, List.not_mem_nil, or_false] at hr
    rcases hr with rfl | rfl
    · exact ⟨h1, l1, k1⟩
    · exact ⟨h2, l2, k2⟩⟩
/-- a callee has turned a tree within the tree at 0 -/
theorem St.within {w0 w w' : World} {M S Sj : List Nat} {hs : List Res} {φ ψ : World → Prop} (st : St w0 M (.tree S φ :: hs) w) (c : Chg Sj w w') (hj : ∀ k ∈ Sj, k ∈ S) (hM : ∀ k ∈ S, k ∈ M ∨ w0.heap.size ≤ k) (hψ : ψ w') (hl : Sx.Loc S ψ) : St w0 M (.tree S ψ :: hs) w' := by
  have h := st.res (i := 0) rfl
  exact st.swap (i := 0) (r' := .tree S ψ) rfl c hj (fun k hk => hM k (hj k hk)) (fun k hk => .inl hk) ⟨hψ, fun k hk => Nat.lt_of_lt_of_le (h.2.1 k hk) c.size, hl⟩
/-- a callee has turned a tree within the tree at 'i' -/
theorem St.withinI {w0 w w' : World} {M S Sj : List Nat} {hs : List Res} {φ : World → Prop} (st : St w0 M hs w) {i : Nat} (ψ : World → Prop) (hi : nth hs i = some (.tree S φ)) (c : Chg Sj w w') (hj : ∀ k ∈ Sj, k ∈ S) (hM : ∀ k ∈ S, k ∈ M ∨ w0.heap.size ≤ k) (hψ : ψ w') (hl : Sx.Loc S ψ) : St w0 M (setNth hs i (.tree S ψ)) w' := by
  have h := st.res hi
  exact st.swap (r' := .tree S ψ) hi c hj (fun k hk => hM k (hj k hk)) (fun k hk => .inl hk) ⟨hψ, fun k hk => Nat.lt_of_lt_of_le (h.2.1 k hk) c.size, hl⟩
/-- a tree falls in two -/
theorem St.split {w0 w : World} {M S T : List Nat} {hs : List Res} {χ φ ψ : World → Prop} (st : St w0 M (.tree (S ++ T) χ :: hs) w) (hn : (S ++ T).Nodup) (h1 : φ w) (h2 : ψ w) (k1 : Sx.Loc S φ) (k2 : Sx.Loc T ψ) : St w0 M (.tree S φ :: .tree T ψ :: hs) w := by
  have h := st.res (i := 0) rfl
  have hnd := List.pairwise_cons.1 st.nodup
  refine ⟨st.chg, List.pairwise_cons.2 ⟨fun x hx => ?_, List.pairwise_cons.2 ⟨fun x hx k hk => hnd.1 x hx k (List.mem_append.2 (.inr hk)), hnd.2⟩⟩, fun x hx => ?_⟩
  · rcases List.mem_cons.1 hx with rfl | hx
    · exact fun k hk hk' => (List.nodup_append.1 hn).2.2 k hk k hk' rfl
    · exact fun k hk => hnd.1 x hx k (List.mem_append.2 (.inl hk))
  · rcases List.mem_cons.1 hx with rfl | hx
    · exact ⟨h1, fun k hk => h.2.1 k (List.mem_append.2 (.inl hk)), k1⟩
    · rcases List.mem_cons.1 hx with rfl | hx
      · exact ⟨h2, fun k hk => h.2.1 k (List.mem_append.2 (.inr hk)), k2⟩
      · exact st.here x (.tail _ hx)
end Sx


/- A map that counts words: its keys in the order of their birth; a range over it. -/
namespace Sx
open Go Go.RowKit
set_option linter.unusedVariables false
set_option linter.unusedSimpArgs false

abbrev Wd := List UInt8
def insK (s : Wd) (ks : List Wd) : List Wd := if s ∈ ks then ks else ks ++ [s]
theorem insK_nodup {s : Wd} {ks : List Wd} (h : ks.Nodup) : (insK s ks).Nodup := by
  unfold insK; split
  · exact h
  · rename_i hs
    rw [List.nodup_append]; exact ⟨h, by simp, by rintro x hx y hy; simp at hy; subst hy; intro e; subst e; exact hs hx⟩
theorem mem_insK {s x : Wd} {ks : List Wd} : x ∈ insK s ks ↔ x = s ∨ x ∈ ks := by
  unfold insK; split
  · rename_i hs; constructor
    · exact fun h => .inr h
    · rintro (rfl | h); exact hs; exact h
  · simp [or_comm]

/-- what the entries of such a map are -/
structure Ents (es : List MapEntry) (ks : List Wd) : Prop where
  key : es.map (·.key) = ks.map str
  val : ∀ e ∈ es, ∃ c, e.val = .int .i64 c
  born : ∀ (i : Nat) (e : MapEntry), es[i]? = some e → e.born = i

def MapK (w : World) (b : Nat) (ks : List Wd) : Prop := ∃ es : Array MapEntry, w.heap[b]? = some (.map es es.size) ∧ Ents es.toList ks

theorem MapK.lt {w : World} {b : Nat} {ks : List Wd} (h : MapK w b ks) : b < w.heap.size := by obtain ⟨es, h1, _⟩ := h; exact (Array.getElem?_eq_some_iff.1 h1).1
theorem Loc_MapK (b : Nat) (ks : List Wd) : Loc [b] (fun w => MapK w b ks) := fun w w' _ hk ⟨es, h1, h2⟩ => ⟨es, (hk b (by simp)).trans h1, h2⟩

theorem bytes_beq (s t : Wd) : ((⟨s.toArray⟩ : ByteArray) == ⟨t.toArray⟩) = decide (s = t) := by
  show (s.toArray == t.toArray) = _
  rw [Bool.eq_iff_iff]; simp

theorem findNow_no {s : Wd} : ∀ (es : List MapEntry) (ks : List Wd) (i : Nat), es.map (·.key) = ks.map str → s ∉ ks → Instr.findNow .string (str s) es i = some none
  | [], ks, i, h, hs => rfl
  | e :: es, [], i, h, hs => by simp at h
  | e :: es, k :: ks, i, h, hs => by
    simp only [List.map_cons, List.cons.injEq] at h
    simp only [Instr.findNow, h.1, Instr.sameNow, bytes_beq]
    have : s ≠ k := fun e => hs (by simp [e])
    simp only [this, decide_false]
    exact findNow_no es ks _ h.2 (fun h => hs (by simp [h]))
theorem findNow_yes {s : Wd} : ∀ (es : List MapEntry) (ks : List Wd) (i : Nat), es.map (·.key) = ks.map str → s ∈ ks → ∃ j e, es[j]? = some e ∧ e.key = str s ∧ Instr.findNow .string (str s) es i = some (some (i + j, e.val))
  | [], ks, i, h, hs => by cases ks <;> simp at h hs
  | e :: es, [], i, h, hs => by simp at h
  | e :: es, k :: ks, i, h, hs => by
    simp only [List.map_cons, List.cons.injEq] at h
    by_cases hk : s = k
    · subst hk
      exact ⟨0, e, rfl, h.1, by simp [Instr.findNow, h.1, Instr.sameNow, bytes_beq]⟩
    · obtain ⟨j, e', h1, h2, h3⟩ := findNow_yes es ks (i + 1) h.2 (by simpa [hk] using hs)
      refine ⟨j + 1, e', by simpa using h1, h2, ?_⟩
      simp only [Instr.findNow, h.1, Instr.sameNow, bytes_beq, hk, decide_false]
      rw [h3, Nat.add_assoc, Nat.add_comm 1 j]

section
variable {P : Program} {n : Fr} {L : List Oper} {Q : Exit → Act → World → Prop} {kn : Kn} {w0 w : World} {M : List Nat} {hs : List Res} {N : Act → World → Prop}
variable {d ty : Nat} {pos : String} {aft : Array Edge} {g : Option (Nat × Bool)}

theorem checkKey_str {k : Nat} (hk : P.underlying k = some .string) (em : Bool) (s : Wd) (w : World) : (Instr.checkKey em 10000 k (str s)).run P w = .ok () w := by
  show (Instr.checkKey em (9999 + 1) k (str s)).run P w = _
  unfold Instr.checkKey
  simp [Sem.run_bind, underlying, Sem.run, hk, Result.andThen, str]

theorem findKey_str {k : Nat} (hk : P.underlying k = some .string) {s : Wd} {es : List MapEntry} {r : Option (Nat × Value)} (h : Instr.findNow .string (str s) es 0 = some r) (w : World) : (Instr.findKey k (str s) es).run P w = .ok r w := by
  simp [Instr.findKey, Sem.run_bind, underlying, Sem.run, hk, Result.andThen, h]

theorem run_lookupK {T k e b : Nat} {s : Wd} {ks : List Wd} (hm : MapK w b ks) (ht : P.underlying T = some (.map k e)) (hk : P.underlying k = some .string) (hz : ∀ w, (zeroValue e).run P w = .ok (.int .i64 0) w) :
    ∃ c, (Instr.lookup T (.map (some b)) (str s) false).run P w = .ok (.int .i64 c) w := by
  obtain ⟨es, hb, hE⟩ := hm
  by_cases hs : s ∈ ks
  · obtain ⟨j, e', h1, h2, h3⟩ := findNow_yes (s := s) es.toList ks 0 hE.key hs
    obtain ⟨c, hc⟩ := hE.val e' (List.mem_of_getElem? h1)
    refine ⟨c, ?_⟩
    simp [Instr.lookup, getObj, Sem.run_bind, underlying, Sem.run, ht, hb, Result.andThen, checkKey_str hk, findKey_str hk h3, hc]
  · refine ⟨0, ?_⟩
    simp [Instr.lookup, getObj, Sem.run_bind, underlying, Sem.run, ht, hb, Result.andThen, checkKey_str hk, findKey_str hk (findNow_no es.toList ks 0 hE.key hs), hz]

theorem setObj_chg {b : Nat} {o o' : Obj} (hb : w.heap[b]? = some o) (hn : ∀ c e f, o ≠ .cells c e f) : (setObj b o').run P w = .ok () (ChangeMaps.setBlock w b o') ∧ Chg [b] w (ChangeMaps.setBlock w b o') ∧ (ChangeMaps.setBlock w b o').heap[b]? = some o' := by
  have hlt := (Array.getElem?_eq_some_iff.1 hb).1
  refine ⟨?_, ⟨rfl, rfl, rfl, by simp [ChangeMaps.setBlock], fun i _ hi => ?_⟩, ?_⟩
  · simp only [setObj, Sem.run, hb, ChangeMaps.setBlock]
    try (cases o <;> first | rfl | exact absurd rfl (hn _ _ _))
  · simp only [ChangeMaps.setBlock]; rw [Array.getElem?_setIfInBounds_ne (fun e => hi (by simp [e]))]
  · simp only [ChangeMaps.setBlock]; rw [Array.getElem?_setIfInBounds_self_of_lt hlt]

theorem run_updateK {T k e b : Nat} {s : Wd} {c : Int} {ks : List Wd} (hm : MapK w b ks) (ht : P.underlying T = some (.map k e)) (hk : P.underlying k = some .string) :
    ∃ w', (Instr.mapUpdate T (.map (some b)) (str s) (.int .i64 c)).run P w = .ok () w' ∧ MapK w' b (insK s ks) ∧ Chg [b] w w' := by
  obtain ⟨es, hb, hE⟩ := hm
  by_cases hs : s ∈ ks
  · obtain ⟨j, e', h1, h2, h3⟩ := findNow_yes (s := s) es.toList ks 0 hE.key hs
    obtain ⟨q1, q2, q3⟩ := setObj_chg (P := P) (o' := .map (es.modify j fun x => { x with key := str s, val := .int .i64 c }) es.size) hb (by simp)
    refine ⟨_, ?_, ⟨es.modify j fun x => { x with key := str s, val := .int .i64 c }, (by rw [q3]; simp), ?_⟩, q2⟩
    · have hg : es[j]? = some e' := by simpa using h1
      simp only [Nat.zero_add] at h3
      simp [Instr.mapUpdate, getObj, Sem.run_bind, underlying, Sem.run, ht, hb, Result.andThen, checkKey_str hk, findKey_str hk h3, hg, h2, Instr.keyThatStays, Instr.sameBits, str, bytes_beq]
      exact q1
    · simp only [insK, hs, if_true]
      have hl : (es.modify j fun x => { x with key := str s, val := .int .i64 c }).toList = es.toList.modify j (fun x => { x with key := str s, val := .int .i64 c }) := by simp
      rw [hl]
      refine ⟨?_, ?_, ?_⟩
      · rw [← hE.key]
        apply List.ext_getElem?
        intro i
        simp only [List.getElem?_map, List.getElem?_modify]
        by_cases hij : j = i
        · subst hij; rw [h1]; simp [h2]
        · simp [hij]
      · intro x hx
        obtain ⟨i, hi⟩ := List.getElem?_of_mem hx
        rw [List.getElem?_modify] at hi
        by_cases hij : j = i
        · subst hij; rw [h1] at hi; simp at hi; exact ⟨c, by rw [← hi]⟩
        · simp only [hij, if_false, Option.map_id_fun', id] at hi; exact hE.val x (List.mem_of_getElem? (by simpa using hi))
      · intro i x hi
        rw [List.getElem?_modify] at hi
        by_cases hij : j = i
        · subst hij; rw [h1] at hi; simp at hi; rw [← hi]; exact (hE.born j e' h1 : e'.born = j)
        · simp only [hij, if_false, Option.map_id_fun', id] at hi; exact hE.born i x (by simpa using hi)
  · obtain ⟨q1, q2, q3⟩ := setObj_chg (P := P) (o' := .map (es.push { key := str s, val := .int .i64 c, born := es.size }) (es.size + 1)) hb (by simp)
    refine ⟨_, ?_, ⟨es.push { key := str s, val := .int .i64 c, born := es.size }, (by rw [q3]; simp), ?_⟩, q2⟩
    · simp [Instr.mapUpdate, getObj, Sem.run_bind, underlying, Sem.run, ht, hb, Result.andThen, checkKey_str hk, findKey_str hk (findNow_no es.toList ks 0 hE.key hs)]
      exact q1
    · simp only [insK, hs, if_false, Array.toList_push]
      refine ⟨by simp [hE.key], ?_, ?_⟩
      · intro x hx
        rcases List.mem_append.1 hx with h | h
        · exact hE.val x h
        · simp at h; exact ⟨c, by rw [h]⟩
      · intro i x hi
        rcases Nat.lt_or_ge i es.toList.length with h | h
        · rw [List.getElem?_append_left h] at hi; exact hE.born i x hi
        · rw [List.getElem?_append_right h] at hi
          cases hd : i - es.toList.length with
          | zero => rw [hd] at hi; simp at hi; rw [← hi]; simp at h hd ⊢; omega
          | succ m => rw [hd] at hi; simp at hi

/-! ## the range -/
/-- a range over the map of 'b' by the iterator 'r': the words 'dn' have come -/
def IterK (w : World) (b r : Nat) (ks dn : List Wd) : Prop := ∃ (es : Array MapEntry) (seen : Array Nat), w.heap[b]? = some (.map es es.size) ∧ Ents es.toList ks ∧ w.heap[r]? = some (.mapIter (some b) es.size seen es.size) ∧
  seen.toList.Nodup ∧ seen.toList.map (fun i => ks[i]?) = dn.map some

theorem Loc_IterK (b r : Nat) (ks dn : List Wd) : Loc [b, r] (fun w => IterK w b r ks dn) := fun w w' _ hk ⟨es, seen, h1, h2, h3, h4⟩ => ⟨es, seen, (hk b (by simp)).trans h1, h2, (hk r (by simp)).trans h3, h4⟩
theorem IterK.map {b r : Nat} {ks dn : List Wd} (h : IterK w b r ks dn) : MapK w b ks := by obtain ⟨es, _, h1, h2, _⟩ := h; exact ⟨es, h1, h2⟩

theorem run_rangeK {T k e b : Nat} {ks : List Wd} (hm : MapK w b ks) (ht : P.underlying T = some (.map k e)) :
    ∃ w', (Instr.range T (.map (some b))).run P w = .ok (.pointer (some ⟨w.heap.size, 0, none⟩)) w' ∧ IterK w' b w.heap.size ks [] ∧ Chg [] w w' ∧ w'.heap.size = w.heap.size + 1 := by
  obtain ⟨es, hb, hE⟩ := hm
  have hlt := (Array.getElem?_eq_some_iff.1 hb).1
  refine ⟨w.alloc (.mapIter (some b) es.size #[] es.size), ?_, ⟨es, #[], ?_, hE, heap_alloc w _, by simp, by simp⟩, Chg.alloc w _, by simp⟩
  · have h1 : (getObj b).run P w = .ok (.map es es.size) w := by simp [getObj, Sem.run, hb]
    have h2 : (underlying T).run P w = .ok (.map k e) w := by simp [underlying, Sem.run, ht]
    simp only [Instr.range, Sem.run_bind, h2, Result.andThen_ok, h1]
    rfl
  · exact ((Chg.alloc w _).block b hlt (by simp)).trans hb

theorem perm_range {n : Nat} : ∀ (l : List Nat), l.Nodup → (∀ i, i ∈ l ↔ i < n) → l.Perm (List.range n) := by
  intro l h1 h2
  exact (List.perm_ext_iff_of_nodup h1 List.nodup_range).2 (fun i => by rw [h2, List.mem_range])

theorem filterMap_range : ∀ (ks : List Wd), (List.range ks.length).filterMap (fun i => ks[i]?) = ks
  | [] => rfl
  | x :: l => by
    rw [List.length_cons, List.range_succ_eq_map, List.filterMap_cons]
    simp only [List.getElem?_cons_zero, List.filterMap_map, Function.comp_def, List.getElem?_cons_succ]
    rw [filterMap_range l]

theorem nodup_lt_len : ∀ (n : Nat) (l : List Nat), l.Nodup → (∀ x ∈ l, x < n) → l.length ≤ n
  | 0, l, _, h => by
    cases l with
    | nil => simp
    | cons a l => exact absurd (h a (by simp)) (by omega)
  | n + 1, l, h1, h2 => by
    have := nodup_lt_len n (l.erase n) (h1.erase n) (fun x hx => by
      have := h1.mem_erase_iff.1 hx
      have := h2 x this.2
      omega)
    rw [List.length_erase] at this
    split at this <;> omega

theorem run_nextK {b r ty : Nat} {ks dn : List Wd} (h : IterK w b r ks dn) (hne : b ≠ r) :
    ∃ t rest dn' w', (Instr.next (.pointer (some ⟨r, 0, none⟩)) false ty).run P w = .ok (.tuple (Value.bool t :: rest).toArray) w' ∧ IterK w' b r ks dn' ∧ Chg [r] w w' ∧
      (t = false → dn' = dn ∧ dn.Perm ks) ∧ (t = true → ∃ s, dn' = dn ++ [s] ∧ dn.length < ks.length) := by
  obtain ⟨es, seen, hb, hE, hr, hn, hm⟩ := h
  have hsz : es.size = ks.length := by have := congrArg List.length hE.key; simpa using this
  have bornE : ∀ e ∈ es.toList, ∃ i, es.toList[i]? = some e ∧ e.born = i := fun e he => by
    obtain ⟨i, hi⟩ := List.getElem?_of_mem he
    exact ⟨i, hi, hE.born i e hi⟩
  have seenlt : ∀ i ∈ seen.toList, i < ks.length := fun i hi => by
    have : ks[i]? ∈ dn.map some := by rw [← hm]; exact List.mem_map.2 ⟨i, hi, rfl⟩
    obtain ⟨x, _, hx⟩ := List.mem_map.1 this
    exact (List.getElem?_eq_some_iff.1 hx.symm).1
  have hdl : seen.toList.length = dn.length := by have := congrArg List.length hm; simpa using this
  rcases run_next_at (P := P) w ty r b es.size es.size seen es es.size hr hb (fun x hx => by
      obtain ⟨i, h1, h2⟩ := bornE x hx
      rw [h2]; exact (List.getElem?_eq_some_iff.1 h1).1) (Nat.le_refl _) with ⟨h0, hrun⟩ | ⟨e, he, w1, hw1, hrun⟩
  · refine ⟨false, [], dn, w, by simpa using hrun, ⟨es, seen, hb, hE, hr, hn, hm⟩, Chg.refl _ _, fun _ => ⟨rfl, ?_⟩, by simp⟩
    have hall : ∀ i, i < ks.length → i ∈ seen.toList := fun i hi => by
      have hi' : i < es.toList.length := by simpa [hsz] using hi
      have : (leftOf es seen) = #[] := Array.eq_empty_of_size_eq_zero h0
      unfold leftOf at this
      rw [Array.filter_eq_empty_iff] at this
      have q := this es.toList[i] (Array.mem_toList_iff.1 (List.getElem_mem hi'))
      have hb' := hE.born i _ (List.getElem?_eq_getElem hi')
      simp at q
      rw [← hb']; simpa using q
    have hp := perm_range (n := ks.length) seen.toList hn (fun i => ⟨seenlt i, hall i⟩)
    have e1 : dn = seen.toList.filterMap (fun i => ks[i]?) := by
      have := congrArg (List.filterMap id) hm
      simpa [List.filterMap_map] using this.symm
    rw [e1]
    have := hp.filterMap (fun i => ks[i]?)
    rwa [filterMap_range] at this
  · obtain ⟨he1, he2⟩ := mem_left he
    obtain ⟨i, hi, hib⟩ := bornE e he1
    have hil : i < ks.length := by have := (List.getElem?_eq_some_iff.1 hi).1; simpa [hsz] using this
    have hk : ks[i]? = some ks[i] := List.getElem?_eq_getElem hil
    have hr1 : w1.heap[r]? = some (.mapIter (some b) es.size seen es.size) := by rcases hw1 with rfl | rfl <;> exact hr
    have hb1 : w1.heap[b]? = some (.map es es.size) := by rcases hw1 with rfl | rfl <;> exact hb
    have hc1 : Chg [r] w w1 := by rcases hw1 with rfl | rfl; exact Chg.refl _ _; exact (Chg.drew w).of_nil
    obtain ⟨q1, q2, q3⟩ := setObj_chg (P := P) (o' := .mapIter (some b) es.size (seen.push e.born) es.size) hr1 (by simp)
    have hni : i ∉ seen.toList := by rw [hib] at he2; simpa using he2
    have hnd : (seen.push e.born).toList.Nodup := by
      rw [Array.toList_push, List.nodup_append]
      exact ⟨hn, by simp, by rintro x hx y hy; simp at hy; subst hy; rw [hib]; intro ee; subst ee; exact hni hx⟩
    refine ⟨true, [e.key, e.val], dn ++ [ks[i]], _, by simpa using hrun, ⟨es, seen.push e.born, (q2.block b (Array.getElem?_eq_some_iff.1 hb1).1 (by simpa using hne)).trans hb1, hE, q3, hnd, ?_⟩, hc1.trans q2, by simp, fun _ => ⟨_, rfl, ?_⟩⟩
    · rw [Array.toList_push, List.map_append, hm, List.map_append]; simp [hib]
    · rw [← hdl]
      have hsub : (seen.push e.born).toList.length ≤ ks.length := by
        exact nodup_lt_len _ _ hnd (fun x hx => by
          rw [Array.toList_push] at hx
          rcases List.mem_append.1 hx with h | h
          · exact seenlt x h
          · simp at h; rw [h, hib]; exact hil)
      simp at hsub ⊢; omega

theorem run_entryK {b r : Nat} {ks dn : List Wd} {s : Wd} (h : IterK w b r ks (dn ++ [s])) : ∃ c, (Instr.entry (.pointer (some ⟨r, 0, none⟩))).run P w = .ok (.tuple #[str s, .int .i64 c]) w := by
  obtain ⟨es, seen, hb, hE, hr, hn, hm⟩ := h
  have hne : seen.toList ≠ [] := by intro e; rw [e] at hm; simp at hm
  obtain ⟨l, i, hl⟩ : ∃ l i, seen.toList = l ++ [i] := ⟨_, _, (List.dropLast_concat_getLast hne).symm⟩
  rw [hl] at hm
  simp only [List.map_append, List.map_cons, List.map_nil] at hm
  obtain ⟨hm1, hm2⟩ := List.append_inj' hm rfl
  simp only [List.cons.injEq, and_true] at hm2
  have hkl : i < ks.length := (List.getElem?_eq_some_iff.1 hm2).1
  have hsz : es.size = ks.length := by have := congrArg List.length hE.key; simpa using this
  have hei : i < es.toList.length := by simpa [hsz] using hkl
  have hg := List.getElem?_eq_getElem hei
  have hbn := hE.born i _ hg
  have hkey : (es.toList[i]).key = str s := by
    have := congrArg (fun l => l[i]?) hE.key
    simp only [List.getElem?_map, hg, hm2, Option.map_some] at this
    exact Option.some.inj this
  obtain ⟨c, hc⟩ := hE.val _ (List.getElem_mem hei)
  refine ⟨c, ?_⟩
  have hnd : (es.toList.map (·.born)).Nodup := by
    have : es.toList.map (·.born) = List.range es.toList.length := by
      apply List.ext_getElem?
      intro j
      rw [List.getElem?_map]
      by_cases hj : j < es.toList.length
      · rw [List.getElem?_eq_getElem hj, List.getElem?_range hj]; exact congrArg some (hE.born j _ (List.getElem?_eq_getElem hj))
      · rw [List.getElem?_eq_none (by omega), List.getElem?_eq_none (by simpa using hj)]; rfl
    rw [this]; exact List.nodup_range
  have hs : seen = (⟨l⟩ : Array Nat).push (es.toList[i]).born := by
    apply Array.toList_inj.1; rw [hl, Array.toList_push, hbn]
  have := run_entry_at (P := P) w r b es.size ⟨l⟩ es es.size es.toList[i] (by rw [← hs]; exact hr) hb (List.getElem_mem hei) hnd
  rw [this, hkey, hc]

/-! ## the operations -/
theorem e_mkm (st : St w0 M hs w) {T : Nat} (hw : gd L kn g = some true) (hd : okDst n (some d) = true)
    (next : ∀ b w', w0.heap.size ≤ b → St w0 M (.tree [b] (fun w => MapK w b []) :: hs) w' → vN n N ((d, .map (some b)) :: kn) w') : vS P n L Q (⟨some d, .makeMap T none, ty, pos, aft, g⟩) N kn w :=
  e_run (v := .map (some w.heap.size)) (w' := w.alloc (.map #[] 0)) hw hd (fun a ha => by
    simp only [execOp, Option.map_none]; rfl) (next _ _ st.chg.size (st.pushR (Chg.alloc w _) ⟨⟨#[], heap_alloc w _, by simp, by simp, by simp⟩, by simp, Loc_MapK _ _⟩ (by simp [Res.at?])))

theorem e_lk (st : St w0 M hs w) (i : Nat) {T k e b : Nat} {x y : Operand} {s : Wd} {ks : List Wd} (hw : gd L kn g = some true) (hd : okDst n (some d) = true) (hx : evO kn x = some (.map (some b))) (hy : evO kn y = some (str s))
    (hi : nth hs i = some (.tree [b] (fun w => MapK w b ks))) (ht : P.underlying T = some (.map k e)) (hk : P.underlying k = some .string) (hz : ∀ w, (zeroValue e).run P w = .ok (.int .i64 0) w)
    (next : ∀ c, vN n N ((d, .int .i64 c) :: kn) w) : vS P n L Q (⟨some d, .lookup T x y false, ty, pos, aft, g⟩) N kn w := by
  obtain ⟨c, hc⟩ := run_lookupK (P := P) (s := s) (st.res hi).1 ht hk hz
  exact e_run (v := .int .i64 c) (w' := w) hw hd (fun a ha => by simp only [execOp, ha.ev hx, ha.ev hy, Sem.run_bind, hc, Result.andThen_ok]; rfl) (next c)

theorem e_mu (st : St w0 M hs w) (i : Nat) {T k e b : Nat} {x y z : Operand} {s : Wd} {c : Int} {ks : List Wd} (hw : gd L kn g = some true) (hx : evO kn x = some (.map (some b))) (hy : evO kn y = some (str s)) (hv : evO kn z = some (.int .i64 c))
    (hi : nth hs i = some (.tree [b] (fun w => MapK w b ks))) (hm : b ∈ M ∨ w0.heap.size ≤ b) (ht : P.underlying T = some (.map k e)) (hk : P.underlying k = some .string)
    (next : ∀ w', St w0 M (setNth hs i (.tree [b] (fun w => MapK w b (insK s ks)))) w' → vN n N kn w') : vS P n L Q (⟨none, .mapUpdate T x y z, ty, pos, aft, g⟩) N kn w := by
  obtain ⟨w', h1, h2, h3⟩ := run_updateK (P := P) (s := s) (c := c) (st.res hi).1 ht hk
  exact e_do (w' := w') hw rfl (fun a ha => by simp only [execOp, ha.ev hx, ha.ev hy, ha.ev hv, Sem.run_bind, h1, Result.andThen_ok]; rfl)
    (next w' (st.turn hi rfl rfl h3 hm ⟨h2, fun k hk => Nat.lt_of_lt_of_le ((st.res hi).2.1 k hk) h3.size, Loc_MapK _ _⟩))

theorem e_rg (st : St w0 M hs w) (i : Nat) {T k e b : Nat} {x : Operand} {ks : List Wd} (hw : gd L kn g = some true) (hd : okDst n (some d) = true) (hx : evO kn x = some (.map (some b)))
    (hi : nth hs i = some (.tree [b] (fun w => MapK w b ks))) (ht : P.underlying T = some (.map k e))
    (next : ∀ r w', w0.heap.size ≤ r → b ≠ r → St w0 M (setNth hs i (.tree [b, r] (fun w => IterK w b r ks []))) w' → vN n N ((d, .pointer (some ⟨r, 0, none⟩)) :: kn) w') : vS P n L Q (⟨some d, .range T x, ty, pos, aft, g⟩) N kn w := by
  obtain ⟨w', h1, h2, h3, h4⟩ := run_rangeK (P := P) (st.res hi).1 ht
  have hbl := (st.res hi).2.1 b (by simp)
  exact e_run (v := .pointer (some ⟨w.heap.size, 0, none⟩)) (w' := w') hw hd (fun a ha => by simp only [execOp, ha.ev hx, Sem.run_bind, h1, Result.andThen_ok]; rfl)
    (next _ w' st.chg.size (by omega) (st.swap (C := []) hi h3 (by simp) (by simp) (by simp [Res.at?]) ⟨h2, by simp [h4]; omega, Loc_IterK _ _ _ _⟩))

theorem e_nx (st : St w0 M hs w) (i : Nat) {b r : Nat} {x : Operand} {ks dn : List Wd} (hw : gd L kn g = some true) (hd : okDst n (some d) = true) (hx : evO kn x = some (.pointer (some ⟨r, 0, none⟩)))
    (hi : nth hs i = some (.tree [b, r] (fun w => IterK w b r ks dn))) (hne : b ≠ r) (hm : r ∈ M ∨ w0.heap.size ≤ r)
    (next : ∀ t rest dn' w', (t = false → dn' = dn ∧ dn.Perm ks) → (t = true → ∃ s, dn' = dn ++ [s] ∧ dn.length < ks.length) → St w0 M (setNth hs i (.tree [b, r] (fun w => IterK w b r ks dn'))) w' →
      vN n N ((d, .tuple (Value.bool t :: rest).toArray) :: kn) w') : vS P n L Q (⟨some d, .next x false, ty, pos, aft, g⟩) N kn w := by
  obtain ⟨t, rest, dn', w', h1, h2, h3, h4, h5⟩ := run_nextK (P := P) (ty := ty) (st.res hi).1 hne
  exact e_run (v := .tuple (Value.bool t :: rest).toArray) (w' := w') hw hd (fun a ha => by simp only [execOp, ha.ev hx, Sem.run_bind, h1, Result.andThen_ok]; rfl)
    (next t rest dn' w' h4 h5 (st.swap (C := [r]) hi h3 (by simp [Res.at?]) (by simpa using hm) (fun k hk => .inl hk) ⟨h2, fun k hk => Nat.lt_of_lt_of_le ((st.res hi).2.1 k hk) h3.size, Loc_IterK _ _ _ _⟩))

theorem e_en (st : St w0 M hs w) (i : Nat) {b r : Nat} {x : Operand} {ks dn : List Wd} {s : Wd} (hw : gd L kn g = some true) (hd : okDst n (some d) = true) (hx : evO kn x = some (.pointer (some ⟨r, 0, none⟩)))
    (hi : nth hs i = some (.tree [b, r] (fun w => IterK w b r ks (dn ++ [s]))))
    (next : ∀ c, vN n N ((d, .tuple [str s, .int .i64 c].toArray) :: kn) w) : vS P n L Q (⟨some d, .entry x, ty, pos, aft, g⟩) N kn w := by
  obtain ⟨c, hc⟩ := run_entryK (P := P) (st.res hi).1
  exact e_run (v := .tuple [str s, .int .i64 c].toArray) (w' := w) hw hd (fun a ha => by simp only [execOp, ha.ev hx, Sem.run_bind, hc, Result.andThen_ok]; rfl) (next c)
end
end Sx


/- The names of a tree: no program in sight. -/
namespace LexS
open Sx
set_option linter.unusedVariables false
set_option linter.unusedSimpArgs false
mutual
def nmsE : Ex → List Wd
  | .mk k op wd nm kids a => (if k = 2 then [nm] else []) ++ nmsEs kids
termination_by structural e => e
def nmsEs : List Ex → List Wd
  | [] => []
  | e :: r => nmsE e ++ nmsEs r
termination_by structural l => l
end
mutual
def nmsS : Sm → List Wd
  | .mk k nm other e body els a => [nm, other] ++ nmsEs e ++ nmsSs body ++ nmsSs els
termination_by structural e => e
def nmsSs : List Sm → List Wd
  | [] => []
  | e :: r => nmsS e ++ nmsSs r
termination_by structural l => l
end
def nmsT (t : Th) : List Wd := [t.nm] ++ t.locals.map (·.nm) ++ nmsSs t.body
def nmsP (p : Pg) : List Wd := (p.shared ++ p.locks).map (·.nm) ++ p.threads.flatMap nmsT
theorem nmsEs_flat (l : List Ex) : nmsEs l = l.flatMap nmsE := by
  induction l with
  | nil => rfl
  | cons x r ih => simp only [nmsEs, List.flatMap_cons, ih]
theorem nmsSs_flat (l : List Sm) : nmsSs l = l.flatMap nmsS := by
  induction l with
  | nil => rfl
  | cons x r ih => simp only [nmsSs, List.flatMap_cons, ih]
theorem nmsE_eq (e : Ex) : nmsE e = (if e.k = 2 then [e.nm] else []) ++ nmsEs e.kids := by cases e; rfl
theorem nmsS_eq (s : Sm) : nmsS s = [s.nm, s.other] ++ nmsEs s.e ++ nmsSs s.body ++ nmsSs s.els := by cases s; rfl
/-- a name is taken in, if it is one -/
def addK (s : Wd) (ks : List Wd) : List Wd := if s = [] then ks else insK s ks
def addAll (l : List Wd) (ks : List Wd) : List Wd := l.foldl (fun ks s => addK s ks) ks
theorem addAll_nil (ks : List Wd) : addAll [] ks = ks := rfl
theorem addAll_cons (s : Wd) (l ks : List Wd) : addAll (s :: l) ks = addAll l (addK s ks) := rfl
theorem addAll_app (a b ks : List Wd) : addAll (a ++ b) ks = addAll b (addAll a ks) := by simp [addAll, List.foldl_append]
theorem addK_nodup {s : Wd} {ks : List Wd} (h : ks.Nodup) : (addK s ks).Nodup := by unfold addK; split; exact h; exact insK_nodup h
theorem addAll_nodup {l : List Wd} : ∀ {ks : List Wd}, ks.Nodup → (addAll l ks).Nodup := by
  induction l with
  | nil => exact fun h => h
  | cons s r ih => exact fun h => ih (addK_nodup h)
theorem mem_addK {s x : Wd} {ks : List Wd} : x ∈ addK s ks ↔ (x = s ∧ s ≠ []) ∨ x ∈ ks := by
  unfold addK; split
  · rename_i h; simp [h]
  · rename_i h; rw [mem_insK]; simp [h]
theorem mem_addAll {l : List Wd} : ∀ {ks : List Wd} {x : Wd}, x ∈ addAll l ks ↔ (x ∈ l ∧ x ≠ []) ∨ x ∈ ks := by
  induction l with
  | nil => intro ks x; simp [addAll_nil]
  | cons s r ih =>
    intro ks x
    rw [addAll_cons, ih, mem_addK]
    constructor
    · rintro (⟨h1, h2⟩ | ⟨h1, h2⟩ | h)
      · exact .inl ⟨List.mem_cons_of_mem _ h1, h2⟩
      · exact .inl ⟨by rw [h1]; exact List.mem_cons_self, by rw [h1]; exact h2⟩
      · exact .inr h
    · rintro (⟨h1, h2⟩ | h)
      · rcases List.mem_cons.1 h1 with e | h
        · exact .inr (.inl ⟨e, by rw [← e]; exact h2⟩)
        · exact .inl ⟨h, h2⟩
      · exact .inr (.inr h)
theorem flat_step {α : Type} {f : α → List Wd} {l : List α} {j : Nat} {x : α} (hx : l[j]? = some x) : (l.take (j + 1)).flatMap f = (l.take j).flatMap f ++ f x := by
  obtain ⟨hj, e⟩ := List.getElem?_eq_some_iff.1 hx
  rw [List.take_succ_eq_append_getElem hj, e, List.flatMap_append]; simp
theorem map_step {α : Type} {f : α → Wd} {l : List α} {j : Nat} {x : α} (hx : l[j]? = some x) : (l.take (j + 1)).map f = (l.take j).map f ++ [f x] := by
  obtain ⟨hj, e⟩ := List.getElem?_eq_some_iff.1 hx
  rw [List.take_succ_eq_append_getElem hj, e, List.map_append]; rfl
/-- the names of a tree, each once, in order -/
def namesL (p : Pg) : List Wd := (addAll (nmsP p) []).mergeSort (fun x y => decide (x ≤ y))
theorem mem_namesL {p : Pg} {x : Wd} : x ∈ namesL p ↔ x ∈ nmsP p ∧ x ≠ [] := by
  unfold namesL; rw [(List.mergeSort_perm _ _).mem_iff, mem_addAll]; simp
theorem namesL_nodup {p : Pg} : (namesL p).Nodup := (List.mergeSort_perm _ _).nodup_iff.2 (addAll_nodup List.nodup_nil)
end LexS

