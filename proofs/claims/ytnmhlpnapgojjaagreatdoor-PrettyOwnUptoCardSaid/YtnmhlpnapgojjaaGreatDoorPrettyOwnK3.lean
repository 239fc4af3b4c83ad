/- A part of the proof: contracts of functions and plain laws; each theorem says its own conditions. -/
import Derived.Test.YtnmhlpnapgojjaaGreatDoorPrettyOwnK2
import Derived.Test.YtnmhlpnapgojjaaGreatDoorPrettyOwnK1
import Derived.Test.YtnmhlpnapgojjaaGreatDoorPrettyOwnK0
set_option linter.unusedVariables false
set_option linter.unusedSimpArgs false
/- Trees by their shape alone: what is needed to write over a tree of one's own. -/
namespace Sx
open Go Go.RowKit
/-- a row of one's own, its cells whatever they be -/
def Fl (E sz : Nat) (w : World) (oa : Option Addr) (cap n : Nat) (S : List Nat) : Prop := ∃ xs, w.ownsRow 0 E sz (.slice oa n cap) n xs ∧ S = obk oa
theorem Fl.kept {E sz : Nat} {w w' : World} {oa : Option Addr} {cap n : Nat} {S : List Nat} (h : Fl E sz w oa cap n S) (hk : ∀ b ∈ S, w'.heap[b]? = w.heap[b]?) : Fl E sz w' oa cap n S := by
  obtain ⟨xs, h1, rfl⟩ := h
  exact ⟨xs, owns_kept h1 hk, rfl⟩
theorem Fl.lt {E sz : Nat} {w : World} {oa : Option Addr} {cap n : Nat} {S : List Nat} (h : Fl E sz w oa cap n S) : ∀ b ∈ S, b < w.heap.size := by
  obtain ⟨xs, h1, rfl⟩ := h
  exact fun b hb => (owns_lt h1 b hb).2
/-- a place in a tree that may be written over: what is said of the tree stays -/
def AtF (φ : World → Prop) (w : World) (oa : Option Addr) (sz j : Nat) (S : List Nat) : Prop := ∃ b, oa = some ⟨b, 0, none⟩ ∧ b ∈ S ∧ (∀ i, i < sz → ∃ u, w.cell? ⟨b, j * sz + i, none⟩ = some u) ∧ (∀ i, w.frozen? ⟨b, i, none⟩ = false) ∧ ∀ i u, i < sz → φ (w.setCell ⟨b, j * sz + i, none⟩ u)
/-- a cell of it: it is there, it may be written, and the row stays a row -/
theorem Fl.at {E sz : Nat} {w : World} {oa : Option Addr} {cap n : Nat} {S : List Nat} {j : Nat} (h : Fl E sz w oa cap n S) (hj : j < n) (hz : 0 < sz) : AtF (fun w => Fl E sz w oa cap n S) w oa sz j S := by
  obtain ⟨xs, ho, rfl⟩ := h
  obtain ⟨b, c, e0, -⟩ := own_form ho (by omega)
  simp only [Value.slice.injEq] at e0
  obtain ⟨rfl, -, rfl⟩ := e0
  have hl : xs.length = n * sz := ho.1
  refine ⟨b, rfl, by simp [obk], fun i hi => ?_, fun i => World.ownsRow.frozenAt ho i, fun i u hi => ?_⟩
  · have h1 : j * sz + i < xs.length := by
      have : j * sz + sz ≤ n * sz := by rw [← Nat.succ_mul]; exact Nat.mul_le_mul_right _ hj
      omega
    exact ⟨xs[j * sz + i], own_cell ho (List.getElem?_eq_getElem h1)⟩
  · exact ⟨_, (World.ownsRow.stored ho (j * sz + i) u).1, rfl⟩
/-- in a greater tree -/
theorem AtF.up {φ ψ : World → Prop} {w : World} {oa : Option Addr} {sz j : Nat} {S T : List Nat} (h : AtF φ w oa sz j S) (hs : ∀ b ∈ S, b ∈ T) (hp : ∀ w', φ w' → Chg S w w' → ψ w') : AtF ψ w oa sz j T := by
  obtain ⟨b, rfl, hb, hc, hf, hp'⟩ := h
  exact ⟨b, rfl, hs b hb, hc, hf, fun i u hi => hp _ (hp' i u hi) ((Chg.setCell w ⟨b, j * sz + i, none⟩ u).mono fun k hk => by simp at hk; subst hk; exact hb)⟩
/-! ### weaker shapes of a row -/
theorem RowS.weak {α β : Type} {V : World → α → List Value → List Nat → Prop} {V' : World → β → List Value → List Nat → Prop} {w : World} (R : β → Prop) :
    ∀ {es : List α} {xs : List Value} {S : List Nat}, (∀ x ∈ es, ∀ v S, V w x v S → ∃ u S', S'.Sublist S ∧ V' w u v S' ∧ R u) → RowS V w es xs S → ∃ us S', us.length = es.length ∧ S'.Sublist S ∧ RowS V' w us xs S' ∧ ∀ u ∈ us, R u
  | [], xs, S, hV, h => ⟨[], [], rfl, by simp, by obtain ⟨rfl, rfl⟩ := h; exact ⟨rfl, rfl⟩, by simp⟩
  | e :: r, xs, S, hV, h => by
    obtain ⟨v, S1, xr, Sr, rfl, rfl, h1, h2⟩ := h
    obtain ⟨u, T1, s1, k1, r1⟩ := hV e (.head _) _ _ h1
    obtain ⟨us, T2, hl, s2, k2, r2⟩ := RowS.weak R (fun x hx => hV x (.tail _ hx)) h2
    exact ⟨u :: us, T1 ++ T2, by simp [hl], s1.append s2, ⟨v, T1, xr, T2, rfl, rfl, k1, k2⟩, fun x hx => (List.mem_cons.1 hx).elim (fun e => e ▸ r1) (r2 x)⟩
theorem RowT.weak {α β : Type} {V : World → α → List Value → List Nat → Prop} {V' : World → β → List Value → List Nat → Prop} {w : World} {E sz : Nat} (R : β → Prop) 
    {oa : Option Addr} {cap : Nat} {es : List α} {S : List Nat} (hV : ∀ x ∈ es, ∀ v S, V w x v S → ∃ u S', S'.Sublist S ∧ V' w u v S' ∧ R u) (h : RowT V E sz w oa cap es S) : ∃ us S', us.length = es.length ∧ S'.Sublist S ∧ RowT V' E sz w oa cap us S' ∧ ∀ u ∈ us, R u := by
  obtain ⟨xs, S', ho, rfl, hr⟩ := h
  obtain ⟨us, T, hl, s, k, r⟩ := RowS.weak R hV hr
  exact ⟨us, obk oa ++ T, hl, (List.Sublist.refl _).append s, ⟨xs, T, by rw [hl]; exact ho, rfl, k⟩, r⟩
theorem RowT.flat {α : Type} {V : World → α → List Value → List Nat → Prop} {w : World} {E sz : Nat} {oa : Option Addr} {cap : Nat} {es : List α} {S : List Nat} (h : RowT V E sz w oa cap es S) : ∃ S', S'.Sublist S ∧ Fl E sz w oa cap es.length S' := by
  obtain ⟨xs, S', ho, rfl, hr⟩ := h
  exact ⟨obk oa, List.sublist_append_left _ _, xs, ho, rfl⟩
theorem RowT.kept {α : Type} {V : World → α → List Value → List Nat → Prop} {w w' : World} {E sz : Nat} (hV : ∀ w w' x v S, V w x v S → (∀ b ∈ S, w'.heap[b]? = w.heap[b]?) → V w' x v S) {oa : Option Addr} {cap : Nat} {es : List α} {S : List Nat} (h : RowT V E sz w oa cap es S) (hk : ∀ b ∈ S, w'.heap[b]? = w.heap[b]?) : RowT V E sz w' oa cap es S := by
  obtain ⟨xs, S', ho, rfl, hr⟩ := h
  exact ⟨xs, S', owns_kept ho fun k hk' => hk k (by simp [hk']), rfl, RowS.kept hV hr fun b hb => hk b (by simp [hb])⟩
theorem RowS.lt {α : Type} {V : World → α → List Value → List Nat → Prop} {w : World} (hV : ∀ x v S, V w x v S → ∀ b ∈ S, b < w.heap.size) : ∀ {es : List α} {xs : List Value} {S : List Nat}, RowS V w es xs S → ∀ b ∈ S, b < w.heap.size
  | [], xs, S, h => by obtain ⟨rfl, rfl⟩ := h; intro b hb; cases hb
  | e :: r, xs, S, h => by
    obtain ⟨v, S1, xr, Sr, rfl, rfl, h1, h2⟩ := h
    intro b hb
    rcases List.mem_append.1 hb with h | h
    · exact hV _ _ _ h1 b h
    · exact RowS.lt hV h2 b h
theorem RowT.lt {α : Type} {V : World → α → List Value → List Nat → Prop} {w : World} {E sz : Nat} (hV : ∀ x v S, V w x v S → ∀ b ∈ S, b < w.heap.size) {oa : Option Addr} {cap : Nat} {es : List α} {S : List Nat} (h : RowT V E sz w oa cap es S) : ∀ b ∈ S, b < w.heap.size := by
  obtain ⟨xs, S', ho, rfl, hr⟩ := h
  intro b hb
  rcases List.mem_append.1 hb with h | h
  · exact (owns_lt ho b h).2
  · exact RowS.lt hV hr b h
/-- where the lists of a tree lie, and how long they are -/
structure SmD where
  oe : Option Addr
  ne : Nat
  ce : Nat
  ob : Option Addr
  nb : Nat
  cb : Nat
structure ThD where
  od : Option Addr
  nd : Nat
  cd : Nat
  ob : Option Addr
  cb : Nat
  sms : List SmD
structure PgD where
  os : Option Addr
  ns : Nat
  cs : Nat
  ot : Option Addr
  ct : Nat
  ths : List ThD
section
variable {tE tS tD tT : Nat} {w w' : World}
/-- a statement's cells, its lists flat -/
def SmF (tE tS : Nat) (w : World) (d : SmD) (v : List Value) (S : List Nat) : Prop := ∃ (k a : Int) (nm o : List UInt8) (vl : Value) (Se Sb : List Nat),
  v = [.int .u8 k, str nm, str o, .slice d.oe d.ne d.ce, .slice d.ob d.nb d.cb, vl, .int .i64 a] ∧ Fl tE 6 w d.oe d.ce d.ne Se ∧ Fl tS 7 w d.ob d.cb d.nb Sb ∧ S = Se ++ Sb
def ThF (tE tS tD : Nat) (w : World) (d : ThD) (v : List Value) (S : List Nat) : Prop := ∃ (a : Int) (nm : List UInt8) (Sd Sb : List Nat),
  v = [str nm, .slice d.od d.nd d.cd, .slice d.ob d.sms.length d.cb, .int .i64 a] ∧ Fl tD 3 w d.od d.cd d.nd Sd ∧ RowT (SmF tE tS) tS 7 w d.ob d.cb d.sms Sb ∧ S = Sd ++ Sb
abbrev lim : Nat := 1099511627776
def SmD.Ok (d : SmD) : Prop := d.ne ≤ lim ∧ d.nb ≤ lim
def ThD.Ok (d : ThD) : Prop := d.nd ≤ lim ∧ d.sms.length ≤ lim ∧ ∀ s ∈ d.sms, s.Ok
def PgD.Ok (d : PgD) : Prop := d.ns ≤ lim ∧ d.ths.length ≤ lim ∧ ∀ t ∈ d.ths, t.Ok
theorem SmF.of {s : Sm} (ok : OkS s) {v : List Value} {S : List Nat} (h : SmS tE tS w s v S) : ∃ d S', S'.Sublist S ∧ SmF tE tS w d v S' ∧ d.Ok := by
  obtain ⟨oe, ce, ob, cb, ol, cl, Se, Sb, Sl, rfl, h1, h2, h3, rfl⟩ := SmS_iff.1 h
  obtain ⟨T1, s1, k1⟩ := (exR_row.1 h1).flat
  obtain ⟨T2, s2, k2⟩ := (smR_row.1 h2).flat
  exact ⟨⟨oe, _, ce, ob, _, cb⟩, T1 ++ T2, s1.append (s2.trans (List.sublist_append_left _ _)), ⟨_, _, _, _, _, T1, T2, rfl, k1, k2, rfl⟩, ok.e.1, ok.body.1⟩
theorem mem_ok {α : Type} {R : α → Prop} {l : List α} (h : ∀ (j : Nat) x, l[j]? = some x → R x) : ∀ x ∈ l, R x := fun x hx => by
  obtain ⟨j, hj⟩ := List.mem_iff_getElem?.1 hx
  exact h j x hj
theorem ThF.of {t : Th} (ok : OkD t.locals ∧ OkSs t.body) {v : List Value} {S : List Nat} (h : ThS tE tS tD w t v S) : ∃ d S', S'.Sublist S ∧ ThF tE tS tD w d v S' ∧ d.Ok := by
  obtain ⟨ol, cl, ob, cb, Sl, Sb, rfl, h1, h2, rfl⟩ := h
  obtain ⟨us, T2, hl, s2, k2, r2⟩ := RowT.weak SmD.Ok (fun x hx v S h => SmF.of (mem_ok ok.2.2 x hx) h) (smR_row.1 h2)
  obtain ⟨h1, rfl⟩ := h1
  exact ⟨⟨ol, _, cl, ob, cb, us⟩, obk ol ++ T2, (List.Sublist.refl _).append s2, ⟨_, _, obk ol, T2, by rw [hl], ⟨_, h1, rfl⟩, k2, rfl⟩, ok.1.1, by dsimp only; rw [hl]; exact ok.2.1, r2⟩
theorem SmF.len {d : SmD} {v : List Value} {S : List Nat} (h : SmF tE tS w d v S) : v.length = 7 := by
  obtain ⟨_, _, _, _, _, _, _, rfl, -⟩ := h; rfl
theorem SmF.lt {d : SmD} {v : List Value} {S : List Nat} (h : SmF tE tS w d v S) : ∀ b ∈ S, b < w.heap.size := by
  obtain ⟨_, _, _, _, _, _, _, -, h1, h2, rfl⟩ := h
  intro b hb
  rcases List.mem_append.1 hb with h | h
  · exact h1.lt b h
  · exact h2.lt b h
theorem SmF.kept {d : SmD} {v : List Value} {S : List Nat} (h : SmF tE tS w d v S) (hk : ∀ b ∈ S, w'.heap[b]? = w.heap[b]?) : SmF tE tS w' d v S := by
  obtain ⟨k, a, nm, o, vl, Se, Sb, rfl, h1, h2, rfl⟩ := h
  exact ⟨k, a, nm, o, vl, Se, Sb, rfl, h1.kept fun b hb => hk b (by simp [hb]), h2.kept fun b hb => hk b (by simp [hb]), rfl⟩
theorem ThF.len {d : ThD} {v : List Value} {S : List Nat} (h : ThF tE tS tD w d v S) : v.length = 4 := by
  obtain ⟨_, _, _, _, rfl, -⟩ := h; rfl
theorem ThF.lt {d : ThD} {v : List Value} {S : List Nat} (h : ThF tE tS tD w d v S) : ∀ b ∈ S, b < w.heap.size := by
  obtain ⟨_, _, _, _, -, h1, h2, rfl⟩ := h
  intro b hb
  rcases List.mem_append.1 hb with h | h
  · exact h1.lt b h
  · exact RowT.lt (fun x v S h => h.lt) h2 b h
theorem ThF.kept {d : ThD} {v : List Value} {S : List Nat} (h : ThF tE tS tD w d v S) (hk : ∀ b ∈ S, w'.heap[b]? = w.heap[b]?) : ThF tE tS tD w' d v S := by
  obtain ⟨a, nm, Sd, Sb, rfl, h1, h2, rfl⟩ := h
  exact ⟨a, nm, Sd, Sb, rfl, h1.kept fun b hb => hk b (by simp [hb]), RowT.kept (fun w w' x v S h hk => h.kept hk) h2 fun b hb => hk b (by simp [hb]), rfl⟩
/-- a program's lists by their shape -/
def PgF (tE tS tD tT : Nat) (w : World) (D : PgD) (S : List Nat) : Prop := ∃ Ss St, Fl tD 3 w D.os D.cs D.ns Ss ∧ RowT (ThF tE tS tD) tT 4 w D.ot D.ct D.ths St ∧ S = Ss ++ St
theorem PgF.of {p : Pg} (ok : OkP p) {l : List Value} {S : List Nat} (h : PgS tE tS tD tT w p l S) : ∃ D ol cl S', l = [.slice D.os D.ns D.cs, .slice ol p.locks.length cl, .slice D.ot D.ths.length D.ct] ∧ S'.Sublist S ∧ PgF tE tS tD tT w D S' ∧ D.Ok := by
  obtain ⟨os, cs, ol, cl, ot, ct, Ss, Sl, St, rfl, h1, h2, h3, rfl⟩ := h
  obtain ⟨us, T, hl, s, k, r⟩ := RowT.weak ThD.Ok (fun x hx v S h => ThF.of (mem_ok (R := fun t => OkD t.locals ∧ OkSs t.body) (fun j t ht => ⟨(ok.2.2.2 j t ht).1, (ok.2.2.2 j t ht).2.1⟩) x hx) h) (thR_row.1 h3)
  obtain ⟨h1, rfl⟩ := h1
  exact ⟨⟨os, _, cs, ot, ct, us⟩, ol, cl, obk os ++ T, by rw [hl], (List.Sublist.refl _).append (s.trans (List.sublist_append_right _ _)), ⟨obk os, T, ⟨_, h1, rfl⟩, k, rfl⟩, ok.1.1, by dsimp only; rw [hl]; exact ok.2.2.1, r⟩
theorem PgF.lt {D : PgD} {S : List Nat} (h : PgF tE tS tD tT w D S) : ∀ b ∈ S, b < w.heap.size := by
  obtain ⟨_, _, h1, h2, rfl⟩ := h
  intro b hb
  rcases List.mem_append.1 hb with h | h
  · exact h1.lt b h
  · exact RowT.lt (fun x v S h => h.lt) h2 b h
theorem PgF.kept {D : PgD} {S : List Nat} (h : PgF tE tS tD tT w D S) (hk : ∀ b ∈ S, w'.heap[b]? = w.heap[b]?) : PgF tE tS tD tT w' D S := by
  obtain ⟨Sd, Sb, h1, h2, rfl⟩ := h
  exact ⟨Sd, Sb, h1.kept fun b hb => hk b (by simp [hb]), RowT.kept (fun w w' x v S h hk => h.kept hk) h2 fun b hb => hk b (by simp [hb]), rfl⟩
theorem set_same {α : Type} {l : List α} {j : Nat} {e : α} (h : l[j]? = some e) : l.set j e = l := by
  obtain ⟨hj, rfl⟩ := List.getElem?_eq_some_iff.1 h
  simp
theorem len2 {A B : List Nat} (h : ∀ a ∈ A, ∀ b ∈ B, a ≠ b) : ∀ k ∈ B, k ∉ A := fun k hk hk' => h k hk' k hk rfl
/-- a statement in its row -/
theorem smF_at {ob : Option Addr} {cb k : Nat} {sms : List SmD} {s : SmD} {S : List Nat} (h : RowT (SmF tE tS) tS 7 w ob cb sms S) (hn : S.Nodup) (hk : sms[k]? = some s) :
    ∃ b kd Se Sb, ob = some ⟨b, 0, none⟩ ∧ b ∈ S ∧ (∀ i, w.frozen? ⟨b, i, none⟩ = false) ∧ w.cell? ⟨b, k * 7 + 0, none⟩ = some (.int .u8 kd) ∧ w.cell? ⟨b, k * 7 + 3, none⟩ = some (.slice s.oe s.ne s.ce) ∧ w.cell? ⟨b, k * 7 + 4, none⟩ = some (.slice s.ob s.nb s.cb) ∧
      (∀ x, RowT (SmF tE tS) tS 7 (w.setCell ⟨b, k * 7 + 0, none⟩ (.int .u8 x)) ob cb sms S) ∧ Fl tE 6 w s.oe s.ce s.ne Se ∧ Fl tS 7 w s.ob s.cb s.nb Sb ∧ (∀ x ∈ Se, x ∈ S) ∧ (∀ x ∈ Sb, x ∈ S) ∧
      (∀ w', Fl tE 6 w' s.oe s.ce s.ne Se → Chg Se w w' → RowT (SmF tE tS) tS 7 w' ob cb sms S) ∧ (∀ w', Fl tS 7 w' s.ob s.cb s.nb Sb → Chg Sb w w' → RowT (SmF tE tS) tS 7 w' ob cb sms S) := by
  have hlt : ∀ k ∈ S, k < w.heap.size := RowT.lt (fun x v S h => h.lt) h
  obtain ⟨b, v, Sj, S1, S2, ho, hbl, hSe, hv, hcell, hfz, hset, hsub⟩ := RowT.focus (V := SmF tE tS) (by omega) (fun w x v S h => h.len) (fun w w' x v S h hk => h.kept hk) h hn hk
  obtain ⟨kd, a, nm, o, vl, Se, Sb, rfl, he, hb, rfl⟩ := hv
  subst hSe
  have hn1 := (List.nodup_append.1 (List.nodup_append.1 (List.nodup_append.1 hn).2.1).1).2.1
  obtain ⟨ne, nb, d1⟩ := List.nodup_append.1 hn1
  refine ⟨b, kd, Se, Sb, ho, by simp, hfz, hcell 0 _ rfl, hcell 3 _ rfl, hcell 4 _ rfl, fun x => ?_, he, hb, fun x hx => by simp [hx], fun x hx => by simp [hx], fun w' h' hc => ?_, fun w' h' hc => ?_⟩
  · have := hset 0 (.int .u8 x) s (by omega) ⟨x, a, nm, o, vl, Se, Sb, rfl, he, hb, rfl⟩
    rwa [set_same hk] at this
  · have := hsub w' s ⟨kd, a, nm, o, vl, Se, Sb, rfl, h', hb.kept fun k hk => hc.block k (hb.lt k hk) (len2 d1 k hk), rfl⟩ hc.size (fun k hk hn => hc.block k hk (fun h => hn (by simp [h]))) hlt
    rwa [set_same hk] at this
  · have := hsub w' s ⟨kd, a, nm, o, vl, Se, Sb, rfl, he.kept fun k hk => hc.block k (he.lt k hk) (fun h => d1 k hk k h rfl), h', rfl⟩ hc.size (fun k hk hn => hc.block k hk (fun h => hn (by simp [h]))) hlt
    rwa [set_same hk] at this
/-- a thread in its row -/
theorem thF_at {ot : Option Addr} {ct i : Nat} {ths : List ThD} {d : ThD} {S : List Nat} (h : RowT (ThF tE tS tD) tT 4 w ot ct ths S) (hn : S.Nodup) (hi : ths[i]? = some d) :
    ∃ b nm a Sd Sb, ot = some ⟨b, 0, none⟩ ∧ b ∈ S ∧ (∀ i, w.frozen? ⟨b, i, none⟩ = false) ∧ (∀ q u, ([str nm, .slice d.od d.nd d.cd, .slice d.ob d.sms.length d.cb, .int .i64 a] : List Value)[q]? = some u → w.cell? ⟨b, i * 4 + q, none⟩ = some u) ∧
      (∀ x, RowT (ThF tE tS tD) tT 4 (w.setCell ⟨b, i * 4 + 0, none⟩ (str x)) ot ct ths S) ∧ Fl tD 3 w d.od d.cd d.nd Sd ∧ RowT (SmF tE tS) tS 7 w d.ob d.cb d.sms Sb ∧ Sb.Nodup ∧ (∀ x ∈ Sd, x ∈ S) ∧ (∀ x ∈ Sb, x ∈ S) ∧
      (∀ w', Fl tD 3 w' d.od d.cd d.nd Sd → Chg Sd w w' → RowT (ThF tE tS tD) tT 4 w' ot ct ths S) ∧ (∀ w', RowT (SmF tE tS) tS 7 w' d.ob d.cb d.sms Sb → Chg Sb w w' → RowT (ThF tE tS tD) tT 4 w' ot ct ths S) := by
  have hlt : ∀ k ∈ S, k < w.heap.size := RowT.lt (fun x v S h => h.lt) h
  obtain ⟨b, v, Sj, S1, S2, ho, hbl, hSe, hv, hcell, hfz, hset, hsub⟩ := RowT.focus (V := ThF tE tS tD) (by omega) (fun w x v S h => h.len) (fun w w' x v S h hk => h.kept hk) h hn hi
  obtain ⟨a, nm, Sd, Sb, rfl, hd, hb, rfl⟩ := hv
  subst hSe
  have hn1 := (List.nodup_append.1 (List.nodup_append.1 (List.nodup_append.1 hn).2.1).1).2.1
  obtain ⟨nd, nb, d1⟩ := List.nodup_append.1 hn1
  have hbl := RowT.lt (fun x v S h => h.lt) hb
  refine ⟨b, nm, a, Sd, Sb, ho, by simp, hfz, hcell, fun x => ?_, hd, hb, nb, fun x hx => by simp [hx], fun x hx => by simp [hx], fun w' h' hc => ?_, fun w' h' hc => ?_⟩
  · have := hset 0 (str x) d (by omega) ⟨a, x, Sd, Sb, rfl, hd, hb, rfl⟩
    rwa [set_same hi] at this
  · have := hsub w' d ⟨a, nm, Sd, Sb, rfl, h', RowT.kept (fun w w' x v S h hk => h.kept hk) hb fun k hk => hc.block k (hbl k hk) (len2 d1 k hk), rfl⟩ hc.size (fun k hk hn => hc.block k hk (fun h => hn (by simp [h]))) hlt
    rwa [set_same hi] at this
  · have := hsub w' d ⟨a, nm, Sd, Sb, rfl, hd.kept fun k hk => hc.block k (hd.lt k hk) (fun h => d1 k hk k h rfl), h', rfl⟩ hc.size (fun k hk hn => hc.block k hk (fun h => hn (by simp [h]))) hlt
    rwa [set_same hi] at this
/-! ### the whole tree -/
section
variable {D : PgD} {S : List Nat} {i j k : Nat} {d : ThD} {s : SmD}
theorem PgF.shd (h : PgF tE tS tD tT w D S) (hn : S.Nodup) (hj : j < D.ns) : AtF (fun w => PgF tE tS tD tT w D S) w D.os 3 j S := by
  obtain ⟨Ss, St, h1, h2, rfl⟩ := h
  obtain ⟨n1, n2, d1⟩ := List.nodup_append.1 hn
  have hl := RowT.lt (fun x v S h => h.lt) h2
  exact (h1.at hj (by omega)).up (fun b hb => List.mem_append.2 (.inl hb)) fun w' h' hc => ⟨Ss, St, h', RowT.kept (fun w w' x v S h hk => h.kept hk) h2 fun k hk => hc.block k (hl k hk) (len2 d1 k hk), rfl⟩
theorem PgF.ths (h : PgF tE tS tD tT w D S) (hn : S.Nodup) : ∃ St, St.Nodup ∧ (∀ x ∈ St, x ∈ S) ∧ RowT (ThF tE tS tD) tT 4 w D.ot D.ct D.ths St ∧ ∀ w', RowT (ThF tE tS tD) tT 4 w' D.ot D.ct D.ths St → Chg St w w' → PgF tE tS tD tT w' D S := by
  obtain ⟨Ss, St, h1, h2, rfl⟩ := h
  obtain ⟨n1, n2, d1⟩ := List.nodup_append.1 hn
  exact ⟨St, n2, fun x hx => by simp [hx], h2, fun w' h' hc => ⟨Ss, St, h1.kept fun k hk => hc.block k (h1.lt k hk) (fun h => d1 k hk k h rfl), h', rfl⟩⟩
theorem PgF.thr (h : PgF tE tS tD tT w D S) (hn : S.Nodup) (hi : D.ths[i]? = some d) :
    ∃ b nm a, D.ot = some ⟨b, 0, none⟩ ∧ b ∈ S ∧ (∀ i, w.frozen? ⟨b, i, none⟩ = false) ∧ (∀ q u, ([str nm, .slice d.od d.nd d.cd, .slice d.ob d.sms.length d.cb, .int .i64 a] : List Value)[q]? = some u → w.cell? ⟨b, i * 4 + q, none⟩ = some u) ∧
      ∀ x, PgF tE tS tD tT (w.setCell ⟨b, i * 4 + 0, none⟩ (str x)) D S := by
  obtain ⟨St, n2, hs, h2, hp⟩ := h.ths hn
  obtain ⟨b, nm, a, Sd, Sb, ho, hb, hf, c0, hput, -⟩ := thF_at h2 n2 hi
  exact ⟨b, nm, a, ho, hs b hb, hf, c0, fun x => hp _ (hput x) ((Chg.setCell w ⟨b, i * 4 + 0, none⟩ (str x)).mono fun k hk => by simp at hk; subst hk; exact hb)⟩
theorem PgF.loc (h : PgF tE tS tD tT w D S) (hn : S.Nodup) (hi : D.ths[i]? = some d) (hj : j < d.nd) : AtF (fun w => PgF tE tS tD tT w D S) w d.od 3 j S := by
  obtain ⟨St, n2, hs, h2, hp⟩ := h.ths hn
  obtain ⟨b, nm, a, Sd, Sb, ho, hb, hf, c0, hput, f1, f2, nb, s1, s2, p1, p2⟩ := thF_at h2 n2 hi
  exact (f1.at hj (by omega)).up (fun b hb => hs b (s1 b hb)) fun w' h' hc => hp _ (p1 w' h' hc) (hc.mono s1)
theorem PgF.bod (h : PgF tE tS tD tT w D S) (hn : S.Nodup) (hi : D.ths[i]? = some d) : ∃ Sb, Sb.Nodup ∧ (∀ x ∈ Sb, x ∈ S) ∧ RowT (SmF tE tS) tS 7 w d.ob d.cb d.sms Sb ∧ ∀ w', RowT (SmF tE tS) tS 7 w' d.ob d.cb d.sms Sb → Chg Sb w w' → PgF tE tS tD tT w' D S := by
  obtain ⟨St, n2, hs, h2, hp⟩ := h.ths hn
  obtain ⟨b, nm, a, Sd, Sb, ho, hb, hf, c0, hput, f1, f2, nb, s1, s2, p1, p2⟩ := thF_at h2 n2 hi
  exact ⟨Sb, nb, fun x hx => hs x (s2 x hx), f2, fun w' h' hc => hp _ (p2 w' h' hc) (hc.mono s2)⟩
theorem PgF.stm (h : PgF tE tS tD tT w D S) (hn : S.Nodup) (hi : D.ths[i]? = some d) (hk : d.sms[k]? = some s) :
    ∃ b kd, d.ob = some ⟨b, 0, none⟩ ∧ b ∈ S ∧ (∀ i, w.frozen? ⟨b, i, none⟩ = false) ∧ w.cell? ⟨b, k * 7 + 0, none⟩ = some (.int .u8 kd) ∧ w.cell? ⟨b, k * 7 + 3, none⟩ = some (.slice s.oe s.ne s.ce) ∧ w.cell? ⟨b, k * 7 + 4, none⟩ = some (.slice s.ob s.nb s.cb) ∧ ∀ x, PgF tE tS tD tT (w.setCell ⟨b, k * 7 + 0, none⟩ (.int .u8 x)) D S := by
  obtain ⟨St, n2, hs, h2, hp⟩ := h.bod hn hi
  obtain ⟨b, kd, Se, Sb, ho, hb, hf, c0, c3, c4, hput, -⟩ := smF_at h2 n2 hk
  exact ⟨b, kd, ho, hs b hb, hf, c0, c3, c4, fun x => hp _ (hput x) ((Chg.setCell w ⟨b, k * 7 + 0, none⟩ (.int .u8 x)).mono fun k hk => by simp at hk; subst hk; exact hb)⟩
theorem PgF.exc (h : PgF tE tS tD tT w D S) (hn : S.Nodup) (hi : D.ths[i]? = some d) (hk : d.sms[k]? = some s) (hj : j < s.ne) : AtF (fun w => PgF tE tS tD tT w D S) w s.oe 6 j S := by
  obtain ⟨St, n2, hs, h2, hp⟩ := h.bod hn hi
  obtain ⟨b, kd, Se, Sb, ho, hb, hf, c0, c3, c4, hput, f1, f2, s1, s2, p1, p2⟩ := smF_at h2 n2 hk
  exact (f1.at hj (by omega)).up (fun b hb => hs b (s1 b hb)) fun w' h' hc => hp _ (p1 w' h' hc) (hc.mono s1)
theorem PgF.sub (h : PgF tE tS tD tT w D S) (hn : S.Nodup) (hi : D.ths[i]? = some d) (hk : d.sms[k]? = some s) (hj : j < s.nb) : AtF (fun w => PgF tE tS tD tT w D S) w s.ob 7 j S := by
  obtain ⟨St, n2, hs, h2, hp⟩ := h.bod hn hi
  obtain ⟨b, kd, Se, Sb, ho, hb, hf, c0, c3, c4, hput, f1, f2, s1, s2, p1, p2⟩ := smF_at h2 n2 hk
  exact (f2.at hj (by omega)).up (fun b hb => hs b (s2 b hb)) fun w' h' hc => hp _ (p2 w' h' hc) (hc.mono s2)
end
/-! ### the same, of every world in which the tree has this shape: its blocks are where they were -/
section
variable {D : PgD} {S : List Nat} {i j k : Nat} {d : ThD} {s : SmD}
def AtB (φ : World → Prop) (b sz j : Nat) : Prop := ∀ w, φ w → (∀ i, i < sz → ∃ u, w.cell? ⟨b, j * sz + i, none⟩ = some u) ∧ (∀ i, w.frozen? ⟨b, i, none⟩ = false) ∧ ∀ i u, i < sz → φ (w.setCell ⟨b, j * sz + i, none⟩ u)
theorem AtB.of {φ : World → Prop} {oa : Option Addr} {sz : Nat} (hw : φ w) (h : ∀ w, φ w → AtF φ w oa sz j S) : ∃ b, oa = some ⟨b, 0, none⟩ ∧ b ∈ S ∧ AtB φ b sz j := by
  obtain ⟨b, rfl, hb, -⟩ := h w hw
  refine ⟨b, rfl, hb, fun w hw => ?_⟩
  obtain ⟨b', e, -, h1, h2, h3⟩ := h w hw
  simp only [Option.some.injEq, Addr.mk.injEq, and_true] at e
  subst e
  exact ⟨h1, h2, h3⟩
theorem AtB.atF {φ : World → Prop} {b sz j : Nat} (h : AtB φ b sz j) (hb : b ∈ S) : ∀ w, φ w → AtF φ w (some ⟨b, 0, none⟩) sz j S := fun w hw => ⟨b, rfl, hb, h w hw⟩
theorem PgF.shdB (h : PgF tE tS tD tT w D S) (hn : S.Nodup) (hj : j < D.ns) : ∃ b, D.os = some ⟨b, 0, none⟩ ∧ b ∈ S ∧ AtB (fun w => PgF tE tS tD tT w D S) b 3 j := AtB.of (φ := fun w => PgF tE tS tD tT w D S) h fun w h => h.shd hn hj
theorem PgF.locB (h : PgF tE tS tD tT w D S) (hn : S.Nodup) (hi : D.ths[i]? = some d) (hj : j < d.nd) : ∃ b, d.od = some ⟨b, 0, none⟩ ∧ b ∈ S ∧ AtB (fun w => PgF tE tS tD tT w D S) b 3 j := AtB.of (φ := fun w => PgF tE tS tD tT w D S) h fun w h => h.loc hn hi hj
theorem PgF.excB (h : PgF tE tS tD tT w D S) (hn : S.Nodup) (hi : D.ths[i]? = some d) (hk : d.sms[k]? = some s) (hj : j < s.ne) : ∃ b, s.oe = some ⟨b, 0, none⟩ ∧ b ∈ S ∧ AtB (fun w => PgF tE tS tD tT w D S) b 6 j := AtB.of (φ := fun w => PgF tE tS tD tT w D S) h fun w h => h.exc hn hi hk hj
theorem PgF.subB (h : PgF tE tS tD tT w D S) (hn : S.Nodup) (hi : D.ths[i]? = some d) (hk : d.sms[k]? = some s) (hj : j < s.nb) : ∃ b, s.ob = some ⟨b, 0, none⟩ ∧ b ∈ S ∧ AtB (fun w => PgF tE tS tD tT w D S) b 7 j := AtB.of (φ := fun w => PgF tE tS tD tT w D S) h fun w h => h.sub hn hi hk hj
theorem PgF.thrB (h : PgF tE tS tD tT w D S) (hn : S.Nodup) (hi : D.ths[i]? = some d) : ∃ b, D.ot = some ⟨b, 0, none⟩ ∧ b ∈ S ∧ ∀ w, PgF tE tS tD tT w D S → (∀ i, w.frozen? ⟨b, i, none⟩ = false) ∧ (∃ nm a, ∀ q u, ([str nm, .slice d.od d.nd d.cd, .slice d.ob d.sms.length d.cb, .int .i64 a] : List Value)[q]? = some u → w.cell? ⟨b, i * 4 + q, none⟩ = some u) ∧ ∀ x, PgF tE tS tD tT (w.setCell ⟨b, i * 4 + 0, none⟩ (str x)) D S := by
  obtain ⟨b, nm, a, ho, hb, -⟩ := h.thr hn hi
  refine ⟨b, ho, hb, fun w h => ?_⟩
  obtain ⟨b', nm, a, e, -, h1, h2, h3⟩ := h.thr hn hi
  rw [ho] at e
  simp only [Option.some.injEq, Addr.mk.injEq, and_true] at e
  subst e
  exact ⟨h1, ⟨nm, a, h2⟩, h3⟩
theorem PgF.stmB (h : PgF tE tS tD tT w D S) (hn : S.Nodup) (hi : D.ths[i]? = some d) (hk : d.sms[k]? = some s) : ∃ b, d.ob = some ⟨b, 0, none⟩ ∧ b ∈ S ∧ ∀ w, PgF tE tS tD tT w D S → (∀ i, w.frozen? ⟨b, i, none⟩ = false) ∧ (∃ kd, w.cell? ⟨b, k * 7 + 0, none⟩ = some (.int .u8 kd)) ∧ w.cell? ⟨b, k * 7 + 3, none⟩ = some (.slice s.oe s.ne s.ce) ∧ w.cell? ⟨b, k * 7 + 4, none⟩ = some (.slice s.ob s.nb s.cb) ∧ ∀ x, PgF tE tS tD tT (w.setCell ⟨b, k * 7 + 0, none⟩ (.int .u8 x)) D S := by
  obtain ⟨b, kd, ho, hb, -⟩ := h.stm hn hi hk
  refine ⟨b, ho, hb, fun w h => ?_⟩
  obtain ⟨b', kd, e, -, h1, h2, h3, h4, h5⟩ := h.stm hn hi hk
  rw [ho] at e
  simp only [Option.some.injEq, Addr.mk.injEq, and_true] at e
  subst e
  exact ⟨h1, ⟨kd, h2⟩, h3, h4, h5⟩
theorem PgF.loc' : Sx.Loc S fun w => PgF tE tS tD tT w D S := loc_of fun a b h hk => h.kept hk
end
end
section
variable {P : Program}
theorem run_storeCells_inv {φ : World → Prop} {b off n : Nat} (hφ : ∀ w, φ w → (∀ j, j < n → ∃ u, w.cell? ⟨b, off + j, none⟩ = some u) ∧ (∀ i, w.frozen? ⟨b, i, none⟩ = false) ∧ ∀ j u, j < n → φ (w.setCell ⟨b, off + j, none⟩ u)) :
    ∀ (vs : List Value) (i : Nat) (w : World), φ w → i + vs.length ≤ n → (∀ v ∈ vs, v.oneCell' = true) → ∃ w', (storeCells ⟨b, off, none⟩ vs i).run P w = .ok () w' ∧ φ w' ∧ Chg [b] w w'
  | [], i, w, h, hl, h1 => ⟨w, by simp [storeCells, go_sem], h, Chg.refl _ _⟩
  | v :: vs, i, w, h, hl, h1 => by
    simp only [List.length_cons] at hl
    obtain ⟨hc, hf, hput⟩ := hφ w h
    obtain ⟨u, hc⟩ := hc i (by omega)
    have hf := hf (off + i)
    obtain ⟨w', hr, hh, hc'⟩ := run_storeCells_inv hφ vs (i + 1) _ (hput i v (by omega)) (by omega) (fun u hu => h1 u (.tail _ hu))
    refine ⟨w', ?_, hh, (Chg.setCell w ⟨b, off + i, none⟩ v).trans hc'⟩
    have hone : v.oneCell' = true := h1 v (.head _)
    have hst : (store ⟨b, off + i, none⟩ v).run P w = .ok () (w.setCell ⟨b, off + i, none⟩ v) := by
      cases v <;> first | (simp [Value.oneCell'] at hone; done) | simp [store, Sem.run, hc, hf]
    simp only [storeCells, Sem.run_bind, addr_add, hst, Result.andThen_ok]
    exact hr
variable {w0 w w' : World} {M : List Nat} {hs : List Res}
variable {n : Fr} {L : List Oper} {Q : Exit → Act → World → Prop} {kn : Kn} {N : Act → World → Prop}
variable {d ty : Nat} {pos : String} {aft : Array Edge} {g : Option (Nat × Bool)}
/-- many cells stored into a tree that is held: what is said of the tree stays while they are stored -/
theorem e_stF (st : St w0 M hs w) (i : Nat) {x y : Operand} {T b off j sz : Nat} {v : Value} {vs : List Value} {S : List Nat} {φ ψ : World → Prop} (hw : gd L kn g = some true) (hx : evO kn x = some (.pointer (some ⟨b, off, none⟩)))
    (hy : evO kn y = some v) (hv : v.cells.toList = vs) (h1 : allOne vs = true) (hsz : ∀ w, (Go.sizeOf T).run P w = .ok vs.length w) (hi : nth hs i = some (.tree S φ)) (hb : b ∈ S) (hm : b ∈ M ∨ w0.heap.size ≤ b)
    (hψ : ψ w) (hput : ∀ w, ψ w → AtF ψ w (some ⟨b, 0, none⟩) sz j S) (hoff : off = j * sz) (hle : vs.length ≤ sz) (hψl : Sx.Loc S ψ)
    (next : ∀ w', St w0 M (setNth hs i (.tree S ψ)) w' → vN n N kn w') : vS P n L Q (⟨none, .store T x y, ty, pos, aft, g⟩) N kn w := by
  subst hoff
  obtain ⟨w', hr, hh, hc9⟩ := run_storeCells_inv (P := P) (φ := ψ) (b := b) (off := j * sz) (n := sz) (fun w h => by
    obtain ⟨b', e, -, hc, hf, hp⟩ := hput w h
    simp only [Option.some.injEq, Addr.mk.injEq, and_true] at e
    subst e
    exact ⟨hc, hf, hp⟩) vs 0 w hψ (by omega) (allOne_spec h1)
  have hlt : ∀ k ∈ S, k < w.heap.size := (st.res hi).2.1
  refine e_do hw rfl (w' := w') (fun a ha => ?_) (next _ (st.swap hi hc9 (fun k hk => by simp at hk; subst hk; exact hb) (fun k hk => by simp at hk; subst hk; exact hm) (fun k hk => .inl hk) ⟨hh, fun k hk => Nat.lt_of_lt_of_le (hlt k hk) hc9.size, hψl⟩))
  simp only [execOp, ha.ev hx, ha.ev hy]
  have hsz' : v.cells.size = vs.length := by rw [← hv]; simp
  have key : (storeVar T ⟨b, j * sz, none⟩ v).run P w = .ok () w' := by
    simp only [storeVar, Sem.run_bind, hsz, Result.andThen_ok, hsz', ne_eq, not_true_eq_false, ↓reduceIte, hv, hr]
  simp only [Instr.storeAt, Instr.sureAddr, Sem.run_bind, Sem.run_pure, Result.andThen_ok, key]
end
/-! ### a row of which some elements are given up -/
section
variable {α : Type}
variable {V : World → α → List Value → List Nat → Prop} {sz : Nat}
end
end Sx


namespace Go.Proofs.YtnmhlpnapgojjaaGreatDoor
open Go.RowKit Sx LexS _root_.Go.Proofs.Tryz
abbrev stmt0 : List Value := [.int .u8 0, str [], str [], .slice none 0 0, .slice none 0 0, .slice none 0 0, .int .i64 0]

set_option maxHeartbeats 4000000 in
theorem spoil_any (os ol ot : Option Addr) (ns cs nl cl ct : Nat) (ths : List ThD) (S : List Nat) (w : World) (h : PgF 42 67 63 69 w ⟨os, ns, cs, ot, ct, ths⟩ S) (hn : S.Nodup) (hD : (⟨os, ns, cs, ot, ct, ths⟩ : PgD).Ok) :
    Ret Tryz.prog 25 [.agg #[.slice os ns cs, .slice ol nl cl, .slice ot ths.length ct]] w fun v w' => v = .tuple #[] ∧ Chg S w w' := by
 refine ret_of [_] func25 rfl ntmps25 rfl ?_
 have st := St.init w S
 clear st
 obtain ⟨w0, rfl⟩ : ∃ w0, w0 = w := ⟨_, rfl⟩
 have st := St.two (w := w0) (φ := (fun w => PgF 42 67 63 69 w ⟨os, ns, cs, ot, ct, ths⟩ S)) (ψ := fun _ => True) (E := []) h trivial h.lt (by simp) PgF.loc' (loc_of fun _ _ h _ => h) (by simp)
 have hSM : ∀ k ∈ S, k ∈ S ∨ w0.heap.size ≤ k := fun k hk => .inl hk
 obtain ⟨hns, hnt, hDt⟩ := hD
 simp only [lim] at hns hnt
 refine vc_seq (vc_region ?_)
 refine vc_e (e_bx (l := [_, _, _]) st rfl rfl rfl rfl ?_)
 intro b1 w hb1 st
 refine vc_end (vq_then (vk1 1 (vc_seq (vc_seq (vc_region ?_)))))
 refine ya ?_
 refine vc_end (vq_then (vk2 1 2 (vc_block ?_)))
 refine vc_loop (w0 := w0) (M := S) (fun (j : Nat) => [(1, .pointer (some ⟨b1, 0, none⟩)), (2, .int .i64 (j : Int))]) (fun j => [.blk b1 (.cells [.slice os ns cs, .slice ol nl cl, .slice ot ths.length ct].toArray 26 (0, 0)), .tree S (fun w => PgF 42 67 63 69 w ⟨os, ns, cs, ot, ct, ths⟩ S)]) (fun j _ => j ≤ ns) (fun j => ns - j) 0 ⟨rfl, rfl, trivial⟩ (st.dr) (by omega) ?_
 clear st
 rintro j w hj st
 refine vc_seq (vc_seq (vc_region ?_))
 refine ym ?_
 refine vy (y_fa0 rfl underlying26 rfl rfl sizeOf23 rfl) ?_
 refine yl st 0 isAgg23 ?_
 refine vy (y_lensl rfl underlying23) ?_
 refine vy (y_lss rfl rfl) ?_
 refine vc_end (vq_then (vk3 1 2 13 ?_))
 refine vc_ifs rfl ?_ ?_
 ·intro hc13
  try simp only [dn] at hc13
  have stK := st
  obtain ⟨bs, hbs, bsS, hAs⟩ := PgF.shdB (st.res (i := 1) rfl).1 hn (j := j) (by show j < ns; omega)
  dsimp only at hbs
  subst hbs
  have st := stK
  clear stK
  refine vc_code_skip (vq_then (vk2 1 2 (vc_seq (vc_block (vc_region ?_)))))
  refine vy (y_fa0 rfl underlying26 rfl rfl sizeOf23 rfl) ?_
  refine yl st 0 isAgg23 ?_
  refine ym ?_
  refine vy (y_ia0 (k := j) rfl rfl underlying23 sizeOf63 rfl (by omega)) ?_
  refine vy (y_fa0 rfl underlying63 rfl rfl sizeOf9 rfl) ?_
  refine vc_e (e_stT st 1 (ψ := (fun w => PgF 42 67 63 69 w ⟨(some ⟨bs, 0, none⟩), ns, cs, ot, ct, ths⟩ S)) rfl rfl rfl rfl sizeOf9 rfl bsS (hSM _ bsS) ((hAs _ (st.res (i := 1) rfl).1).1 0 (by omega)) ((hAs _ (st.res (i := 1) rfl).1).2.1 _) ((hAs _ (st.res (i := 1) rfl).1).2.2 0 _ (by omega)) PgF.loc' ?_)
  intro w st; dsimp only [setNth] at st
  refine vc_end (vq_block (vq_then (vk2 1 2 (vc_region ?_))))
  refine ym ?_
  refine vy (y_add rfl rfl (by omega : _ = ((j + 1 : Nat) : Int)) (by omega) (by omega)) ?_
  refine ya ?_
  refine vc_end ?_
  refine vq_again (j + 1)  ⟨rfl, rfl, trivial⟩ (st.dr) ?_ ?_
  ·omega
  ·omega
 ·intro hc13
  try simp only [dn] at hc13
  refine vc_exit (vq_then_exit (vq_then_exit (vq_block_exit (vq_then (vk1 1 (vc_seq (vc_region ?_)))))))
  refine ya ?_
  refine vc_end (vq_then (vk2 1 3 (vc_block ?_)))
  refine vc_loop (w0 := w0) (M := S) (fun (i : Nat) => [(1, .pointer (some ⟨b1, 0, none⟩)), (3, .int .i64 (i : Int))]) (fun i => [.blk b1 (.cells [.slice os ns cs, .slice ol nl cl, .slice ot ths.length ct].toArray 26 (0, 0)), .tree S (fun w => PgF 42 67 63 69 w ⟨os, ns, cs, ot, ct, ths⟩ S)]) (fun i _ => i ≤ ths.length) (fun i => ths.length - i) 0 ⟨rfl, rfl, trivial⟩ (st.dr) (by omega) ?_
  clear st
  rintro i w hi st
  refine vc_seq (vc_seq (vc_region ?_))
  refine ym ?_
  refine yfz 2 underlying26 sizeOf24 ?_
  refine yl st 0 isAgg24 ?_
  refine vy (y_lensl rfl underlying24) ?_
  refine vy (y_lss rfl rfl) ?_
  refine vc_end (vq_then (vk3 1 3 25 ?_))
  refine vc_ifs rfl ?_ ?_
  ·intro hc25
   try simp only [dn] at hc25
   obtain ⟨⟨od, nd, cd, ob, cb, sms⟩, hx⟩ : ∃ x, ths[i]? = some x := ⟨_, List.getElem?_eq_getElem (by omega)⟩
   obtain ⟨hnd, hnb, hDs⟩ := hDt _ (List.mem_of_getElem? hx)
   dsimp only at hnd hnb hDs
   simp only [lim] at hnd hnb
   have stK := st
   obtain ⟨bt, hbt, btS, hAt⟩ := PgF.thrB (st.res (i := 1) rfl).1 hn hx
   dsimp only at hbt hAt
   subst hbt
   have st := stK
   clear stK
   obtain ⟨nm, a, hcT⟩ := (hAt _ (st.res (i := 1) rfl).1).2.1
   try dsimp only at hcT
   refine vc_code_skip (vq_then (vk2 1 3 (vc_seq (vc_block (vc_seq (vc_region ?_))))))
   refine yfz 2 underlying26 sizeOf24 ?_
   refine yl st 0 isAgg24 ?_
   refine ym ?_
   refine vy (y_ia0 (k := i) rfl rfl underlying24 sizeOf69 rfl (by omega)) ?_
   refine vy (y_ldca [str nm, .slice od nd cd, .slice ob sms.length cb, .int .i64 a] rfl isAgg69 sizeOf69 rfl (fun q u hq => hcT q u hq)) ?_
   refine vc_e (e_al (l := [_, _, _, _]) st rfl rfl zeroValue69 rfl ?_)
   intro b4 w hb4 st
   refine vc_e (e_sts (vs := [_, _, _, _]) st 0 rfl rfl rfl rfl rfl sizeOf69 rfl rfl (by (right; assumption)) ?_)
   intro w st; dsimp only [setNth, wr] at st
   refine vc_end (vq_then (vk3 1 3 4 (vc_seq (vc_region ?_))))
   refine yfz 2 underlying26 sizeOf24 ?_
   refine yl st 1 isAgg24 ?_
   refine ym ?_
   refine vy (y_ia0 (k := i) rfl rfl underlying24 sizeOf69 rfl (by omega)) ?_
   refine vy (y_fa0 rfl underlying69 rfl rfl sizeOf9 rfl) ?_
   refine vc_e (e_stT st 2 (ψ := (fun w => PgF 42 67 63 69 w ⟨os, ns, cs, (some ⟨bt, 0, none⟩), ct, ths⟩ S)) rfl rfl rfl rfl sizeOf9 rfl btS (hSM _ btS) ⟨_, (hAt _ (st.res (i := 2) rfl).1).2.1.choose_spec.choose_spec 0 _ rfl⟩ ((hAt _ (st.res (i := 2) rfl).1).1 _) ((hAt _ (st.res (i := 2) rfl).1).2.2 _) PgF.loc' ?_)
   intro w st; dsimp only [setNth] at st
   refine vc_end (vq_then (vk3 1 3 4 (vc_seq (vc_seq (vc_region ?_)))))
   refine ya ?_
   refine vc_end (vq_then (vk4 1 3 4 5 (vc_block ?_)))
   refine vc_loop (w0 := w0) (M := S) (fun (j : Nat) => [(1, .pointer (some ⟨b1, 0, none⟩)), (3, .int .i64 (i : Int)), (4, .pointer (some ⟨b4, 0, none⟩)), (5, .int .i64 (j : Int))]) (fun j => [.blk b4 (.cells [str nm, .slice od nd cd, .slice ob sms.length cb, .int .i64 a].toArray 69 (0, 0)), .blk b1 (.cells [.slice os ns cs, .slice ol nl cl, .slice (some ⟨bt, 0, none⟩) ths.length ct].toArray 26 (0, 0)), .tree S (fun w => PgF 42 67 63 69 w ⟨os, ns, cs, (some ⟨bt, 0, none⟩), ct, ths⟩ S)]) (fun j _ => j ≤ nd) (fun j => nd - j) 0 ⟨rfl, rfl, rfl, rfl, trivial⟩ (st.dr) (by omega) ?_
   clear st
   rintro j w hj st
   refine vc_seq (vc_seq (vc_region ?_))
   refine ym ?_
   refine yfz 1 underlying69 sizeOf23 ?_
   refine yl st 0 isAgg23 ?_
   refine vy (y_lensl rfl underlying23) ?_
   refine vy (y_lss rfl rfl) ?_
   refine vc_end (vq_then (vk5 1 3 4 5 42 ?_))
   refine vc_ifs rfl ?_ ?_
   ·intro hc42
    try simp only [dn] at hc42
    have stK := st
    obtain ⟨bd, hbd, bdS, hAd⟩ := PgF.locB (st.res (i := 2) rfl).1 hn hx (j := j) (by show j < nd; omega)
    dsimp only at hbd
    subst hbd
    have st := stK
    clear stK
    refine vc_code_skip (vq_then (vk4 1 3 4 5 (vc_seq (vc_block (vc_region ?_)))))
    refine yfz 1 underlying69 sizeOf23 ?_
    refine yl st 0 isAgg23 ?_
    refine ym ?_
    refine vy (y_ia0 (k := j) rfl rfl underlying23 sizeOf63 rfl (by omega)) ?_
    refine vy (y_fa0 rfl underlying63 rfl rfl sizeOf9 rfl) ?_
    refine vc_e (e_stT st 2 (ψ := (fun w => PgF 42 67 63 69 w ⟨os, ns, cs, (some ⟨bt, 0, none⟩), ct, ths⟩ S)) rfl rfl rfl rfl sizeOf9 rfl bdS (hSM _ bdS) ((hAd _ (st.res (i := 2) rfl).1).1 0 (by omega)) ((hAd _ (st.res (i := 2) rfl).1).2.1 _) ((hAd _ (st.res (i := 2) rfl).1).2.2 0 _ (by omega)) PgF.loc' ?_)
    intro w st; dsimp only [setNth] at st
    refine vc_end (vq_block (vq_then (vk4 1 3 4 5 (vc_region ?_))))
    refine ym ?_
    refine vy (y_add rfl rfl (by omega : _ = ((j + 1 : Nat) : Int)) (by omega) (by omega)) ?_
    refine ya ?_
    refine vc_end ?_
    refine vq_again (j + 1)  ⟨rfl, rfl, rfl, rfl, trivial⟩ (st.dr) ?_ ?_
    ·omega
    ·omega
   ·intro hc42
    try simp only [dn] at hc42
    refine vc_exit (vq_then_exit (vq_then_exit (vq_block_exit (vq_then (vk3 1 3 4 (vc_seq (vc_region ?_)))))))
    refine ya ?_
    refine vc_end (vq_then (vk4 1 3 4 6 (vc_block ?_)))
    refine vc_loop (w0 := w0) (M := S) (fun (k : Nat) => [(1, .pointer (some ⟨b1, 0, none⟩)), (3, .int .i64 (i : Int)), (4, .pointer (some ⟨b4, 0, none⟩)), (6, .int .i64 (k : Int))]) (fun k => [.blk b4 (.cells [str nm, .slice od nd cd, .slice ob sms.length cb, .int .i64 a].toArray 69 (0, 0)), .blk b1 (.cells [.slice os ns cs, .slice ol nl cl, .slice (some ⟨bt, 0, none⟩) ths.length ct].toArray 26 (0, 0)), .tree S (fun w => PgF 42 67 63 69 w ⟨os, ns, cs, (some ⟨bt, 0, none⟩), ct, ths⟩ S)]) (fun k _ => k ≤ sms.length) (fun k => sms.length - k) 0 ⟨rfl, rfl, rfl, rfl, trivial⟩ (st.dr) (by omega) ?_
    clear st
    rintro k w hk st
    refine vc_seq (vc_seq (vc_region ?_))
    refine ym ?_
    refine yfz 2 underlying69 sizeOf65 ?_
    refine yl st 0 isAgg65 ?_
    refine vy (y_lensl rfl underlying65) ?_
    refine vy (y_lss rfl rfl) ?_
    refine vc_end (vq_then (vk5 1 3 4 6 54 ?_))
    refine vc_ifs rfl ?_ ?_
    ·intro hc54
     try simp only [dn] at hc54
     obtain ⟨⟨oe, ne, ce, o2, nb, c2⟩, hy⟩ : ∃ x, sms[k]? = some x := ⟨_, List.getElem?_eq_getElem (by omega)⟩
     obtain ⟨hne, hnb2⟩ := hDs _ (List.mem_of_getElem? hy)
     dsimp only at hne hnb2
     simp only [lim] at hne hnb2
     have stK := st
     obtain ⟨bb, hbb, bbS, hAb⟩ := PgF.stmB (st.res (i := 2) rfl).1 hn hx hy
     dsimp only at hbb hAb
     subst hbb
     have st := stK
     clear stK
     refine vc_code_skip (vq_then (vk4 1 3 4 6 (vc_seq (vc_block (vc_seq (vc_seq (vc_region ?_)))))))
     refine ya ?_
     refine vc_end (vq_then (vk5 1 3 4 6 7 (vc_block ?_)))
     refine vc_loop (w0 := w0) (M := S) (fun (j : Nat) => [(1, .pointer (some ⟨b1, 0, none⟩)), (3, .int .i64 (i : Int)), (4, .pointer (some ⟨b4, 0, none⟩)), (6, .int .i64 (k : Int)), (7, .int .i64 (j : Int))]) (fun j => [.blk b4 (.cells [str nm, .slice od nd cd, .slice (some ⟨bb, 0, none⟩) sms.length cb, .int .i64 a].toArray 69 (0, 0)), .blk b1 (.cells [.slice os ns cs, .slice ol nl cl, .slice (some ⟨bt, 0, none⟩) ths.length ct].toArray 26 (0, 0)), .tree S (fun w => PgF 42 67 63 69 w ⟨os, ns, cs, (some ⟨bt, 0, none⟩), ct, ths⟩ S)]) (fun j _ => j ≤ ne) (fun j => ne - j) 0 ⟨rfl, rfl, rfl, rfl, rfl, trivial⟩ (st.dr) (by omega) ?_
     clear st
     rintro j w hj st
     refine vc_seq (vc_seq (vc_region ?_))
     refine ym ?_
     refine yfz 2 underlying69 sizeOf65 ?_
     refine yl st 0 isAgg65 ?_
     refine ym ?_
     refine vy (y_ia0 (k := k) rfl rfl underlying65 sizeOf67 rfl (by omega)) ?_
     refine vy (y_fa (k := 3) rfl underlying67 rfl rfl sizeOf40 rfl) ?_
     refine vy (y_ldc rfl isAgg40 (hAb _ (st.res (i := 2) rfl).1).2.2.1) ?_
     refine vy (y_lensl rfl underlying40) ?_
     refine vy (y_lss rfl rfl) ?_
     refine vc_end (vq_then (vk6 1 3 4 6 7 65 ?_))
     refine vc_ifs rfl ?_ ?_
     ·intro hc65
      try simp only [dn] at hc65
      have stK := st
      obtain ⟨be, hbe, beS, hAe⟩ := PgF.excB (st.res (i := 2) rfl).1 hn hx hy (j := j) (by show j < ne; omega)
      dsimp only at hbe
      subst hbe
      have st := stK
      clear stK
      refine vc_code_skip (vq_then (vk5 1 3 4 6 7 (vc_seq (vc_block (vc_seq (vc_region ?_))))))
      refine yfz 2 underlying69 sizeOf65 ?_
      refine yl st 0 isAgg65 ?_
      refine ym ?_
      refine vy (y_ia0 (k := k) rfl rfl underlying65 sizeOf67 rfl (by omega)) ?_
      refine vy (y_fa (k := 3) rfl underlying67 rfl rfl sizeOf40 rfl) ?_
      refine vy (y_ldc rfl isAgg40 (hAb _ (st.res (i := 2) rfl).1).2.2.1) ?_
      refine ym ?_
      refine vy (y_ia0 (k := j) rfl rfl underlying40 sizeOf42 rfl (by omega)) ?_
      refine vy (y_fa (k := 3) rfl underlying42 rfl rfl sizeOf9 rfl) ?_
      refine vc_e (e_stT st 2 (ψ := (fun w => PgF 42 67 63 69 w ⟨os, ns, cs, (some ⟨bt, 0, none⟩), ct, ths⟩ S)) rfl rfl rfl rfl sizeOf9 rfl beS (hSM _ beS) ((hAe _ (st.res (i := 2) rfl).1).1 3 (by omega)) ((hAe _ (st.res (i := 2) rfl).1).2.1 _) ((hAe _ (st.res (i := 2) rfl).1).2.2 3 _ (by omega)) PgF.loc' ?_)
      intro w st; dsimp only [setNth] at st
      refine vc_end (vq_then (vk5 1 3 4 6 7 (vc_region ?_)))
      refine yfz 2 underlying69 sizeOf65 ?_
      refine yl st 0 isAgg65 ?_
      refine ym ?_
      refine vy (y_ia0 (k := k) rfl rfl underlying65 sizeOf67 rfl (by omega)) ?_
      refine vy (y_fa (k := 3) rfl underlying67 rfl rfl sizeOf40 rfl) ?_
      refine vy (y_ldc rfl isAgg40 (hAb _ (st.res (i := 2) rfl).1).2.2.1) ?_
      refine ym ?_
      refine vy (y_ia0 (k := j) rfl rfl underlying40 sizeOf42 rfl (by omega)) ?_
      refine vy (y_fa0 rfl underlying42 rfl rfl sizeOf38 rfl) ?_
      refine vc_e (e_stT st 2 (ψ := (fun w => PgF 42 67 63 69 w ⟨os, ns, cs, (some ⟨bt, 0, none⟩), ct, ths⟩ S)) rfl rfl rfl rfl sizeOf38 rfl beS (hSM _ beS) ((hAe _ (st.res (i := 2) rfl).1).1 0 (by omega)) ((hAe _ (st.res (i := 2) rfl).1).2.1 _) ((hAe _ (st.res (i := 2) rfl).1).2.2 0 _ (by omega)) PgF.loc' ?_)
      intro w st; dsimp only [setNth] at st
      refine vc_end (vq_block (vq_then (vk5 1 3 4 6 7 (vc_region ?_))))
      refine ym ?_
      refine vy (y_add rfl rfl (by omega : _ = ((j + 1 : Nat) : Int)) (by omega) (by omega)) ?_
      refine ya ?_
      refine vc_end ?_
      refine vq_again (j + 1)  ⟨rfl, rfl, rfl, rfl, rfl, trivial⟩ (st.dr) ?_ ?_
      ·omega
      ·omega
     ·intro hc65
      try simp only [dn] at hc65
      refine vc_exit (vq_then_exit (vq_then_exit (vq_block_exit (vq_then (vk4 1 3 4 6 (vc_seq (vc_seq (vc_region ?_))))))))
      refine ya ?_
      refine vc_end (vq_then (vk5 1 3 4 6 8 (vc_block ?_)))
      refine vc_loop (w0 := w0) (M := S) (fun (j : Nat) => [(1, .pointer (some ⟨b1, 0, none⟩)), (3, .int .i64 (i : Int)), (4, .pointer (some ⟨b4, 0, none⟩)), (6, .int .i64 (k : Int)), (8, .int .i64 (j : Int))]) (fun j => [.blk b4 (.cells [str nm, .slice od nd cd, .slice (some ⟨bb, 0, none⟩) sms.length cb, .int .i64 a].toArray 69 (0, 0)), .blk b1 (.cells [.slice os ns cs, .slice ol nl cl, .slice (some ⟨bt, 0, none⟩) ths.length ct].toArray 26 (0, 0)), .tree S (fun w => PgF 42 67 63 69 w ⟨os, ns, cs, (some ⟨bt, 0, none⟩), ct, ths⟩ S)]) (fun j _ => j ≤ nb) (fun j => nb - j) 0 ⟨rfl, rfl, rfl, rfl, rfl, trivial⟩ (st.dr) (by omega) ?_
      clear st
      rintro j w hj st
      refine vc_seq (vc_seq (vc_region ?_))
      refine ym ?_
      refine yfz 2 underlying69 sizeOf65 ?_
      refine yl st 0 isAgg65 ?_
      refine ym ?_
      refine vy (y_ia0 (k := k) rfl rfl underlying65 sizeOf67 rfl (by omega)) ?_
      refine vy (y_fa (k := 4) rfl underlying67 rfl rfl sizeOf65 rfl) ?_
      refine vy (y_ldc rfl isAgg65 (hAb _ (st.res (i := 2) rfl).1).2.2.2.1) ?_
      refine vy (y_lensl rfl underlying65) ?_
      refine vy (y_lss rfl rfl) ?_
      refine vc_end (vq_then (vk6 1 3 4 6 8 94 ?_))
      refine vc_ifs rfl ?_ ?_
      ·intro hc94
       try simp only [dn] at hc94
       have stK := st
       obtain ⟨bu, hbu, buS, hAu⟩ := PgF.subB (st.res (i := 2) rfl).1 hn hx hy (j := j) (by show j < nb; omega)
       dsimp only at hbu
       subst hbu
       have st := stK
       clear stK
       refine vc_code_skip (vq_then (vk5 1 3 4 6 8 (vc_seq (vc_block (vc_region ?_)))))
       refine yfz 2 underlying69 sizeOf65 ?_
       refine yl st 0 isAgg65 ?_
       refine ym ?_
       refine vy (y_ia0 (k := k) rfl rfl underlying65 sizeOf67 rfl (by omega)) ?_
       refine vy (y_fa (k := 4) rfl underlying67 rfl rfl sizeOf65 rfl) ?_
       refine vy (y_ldc rfl isAgg65 (hAb _ (st.res (i := 2) rfl).1).2.2.2.1) ?_
       refine ym ?_
       refine vy (y_bld (.agg stmt0.toArray) [] rfl (fun w => by simp [Instr.build, go_sem])) ?_
       refine vy (y_ia0 (k := j) rfl rfl underlying65 sizeOf67 rfl (by omega)) ?_
       refine vc_e (e_stF st 2 (ψ := (fun w => PgF 42 67 63 69 w ⟨os, ns, cs, (some ⟨bt, 0, none⟩), ct, ths⟩ S)) (vs := stmt0) (j := j) (sz := 7) rfl rfl rfl rfl rfl sizeOf67 rfl buS (hSM _ buS) (st.res (i := 2) rfl).1 (hAu.atF buS) rfl (by decide) PgF.loc' ?_)
       intro w st; dsimp only [setNth] at st
       refine vc_end (vq_block (vq_then (vk5 1 3 4 6 8 (vc_region ?_))))
       refine ym ?_
       refine vy (y_add rfl rfl (by omega : _ = ((j + 1 : Nat) : Int)) (by omega) (by omega)) ?_
       refine ya ?_
       refine vc_end ?_
       refine vq_again (j + 1)  ⟨rfl, rfl, rfl, rfl, rfl, trivial⟩ (st.dr) ?_ ?_
       ·omega
       ·omega
      ·intro hc94
       try simp only [dn] at hc94
       refine vc_exit (vq_then_exit (vq_then_exit (vq_block_exit (vq_then (vk4 1 3 4 6 (vc_region ?_))))))
       refine yfz 2 underlying69 sizeOf65 ?_
       refine yl st 0 isAgg65 ?_
       refine ym ?_
       refine vy (y_ia0 (k := k) rfl rfl underlying65 sizeOf67 rfl (by omega)) ?_
       refine vy (y_fa0 rfl underlying67 rfl rfl sizeOf64 rfl) ?_
       refine vc_e (e_stT st 2 (ψ := (fun w => PgF 42 67 63 69 w ⟨os, ns, cs, (some ⟨bt, 0, none⟩), ct, ths⟩ S)) rfl rfl rfl rfl sizeOf64 rfl bbS (hSM _ bbS) ⟨_, (hAb _ (st.res (i := 2) rfl).1).2.1.choose_spec⟩ ((hAb _ (st.res (i := 2) rfl).1).1 _) ((hAb _ (st.res (i := 2) rfl).1).2.2.2.2 _) PgF.loc' ?_)
       intro w st; dsimp only [setNth] at st
       refine vc_end (vq_block (vq_then (vk4 1 3 4 6 (vc_region ?_))))
       refine ym ?_
       refine vy (y_add rfl rfl (by omega : _ = ((k + 1 : Nat) : Int)) (by omega) (by omega)) ?_
       refine ya ?_
       refine vc_end ?_
       refine vq_again (k + 1)  ⟨rfl, rfl, rfl, rfl, trivial⟩ (st.dr) ?_ ?_
       ·omega
       ·omega
    ·intro hc54
     try simp only [dn] at hc54
     refine vc_exit (vq_then_exit (vq_then_exit (vq_block_exit (vq_block (vq_then (vk2 1 3 (vc_region ?_)))))))
     refine ym ?_
     refine vy (y_add rfl rfl (by omega : _ = ((i + 1 : Nat) : Int)) (by omega) (by omega)) ?_
     refine ya ?_
     refine vc_end ?_
     refine vq_again (i + 1)  ⟨rfl, rfl, trivial⟩ (st.dr) ?_ ?_
     ·omega
     ·omega
  ·intro hc25
   try simp only [dn] at hc25
   refine vc_exit (vq_then_exit (vq_then_exit (vq_block_exit ?_)))
   refine vq_ret0 (.inr rfl) results25 ?_
   refine ⟨_, rfl, ?_⟩
   exact ⟨rfl, st.chg⟩

end Go.Proofs.YtnmhlpnapgojjaaGreatDoor


namespace Go.Proofs.YtnmhlpnapgojjaaGreatDoor
open Go.RowKit Sx LexS _root_.Go.Proofs.Tryz
abbrev ExRQ := ExR 42
abbrev SmRQ := SmR 42 67
abbrev DcRQ := DcR 63
abbrev ThRQ := ThR 42 67 63 69
abbrev PgQ := PgS 42 67 63 69
theorem Tryz.info63 : Tryz.prog.info? 63 = some Tryz.t63 := by kernel_rfl
theorem Tryz.info42 : Tryz.prog.info? 42 = some Tryz.t42 := by kernel_rfl
theorem Tryz.info67 : Tryz.prog.info? 67 = some Tryz.t67 := by kernel_rfl
theorem Tryz.info69 : Tryz.prog.info? 69 = some Tryz.t69 := by kernel_rfl
theorem take_snoc {α : Type} {l : List α} {j : Nat} {x : α} (h : l[j]? = some x) : l.take (j + 1) = l.take j ++ [x] := by
 obtain ⟨hj, e⟩ := List.getElem?_eq_some_iff.1 h
 rw [List.take_succ_eq_append_getElem hj, e]
section
variable {n0 : Nat}

theorem rcopyD_any (ds : List Dc) (hn : ds.length ≤ 1099511627776) (oa : Option Addr) (cap : Nat) (w : World) (hD : DcRow w (· < n0) oa ds) :
    Ret Tryz.prog 68 [.slice oa ds.length cap] w fun v w' => ∃ oq cq Sq, v = .slice oq ds.length cq ∧ DcRQ w' oq cq ds Sq ∧ Nw w.heap.size Sq ∧ Chg [] w w' := by
 refine ret_of [_] func68 rfl ntmps68 rfl ?_
 have st := St.init w []
 obtain ⟨w0, rfl⟩ : ∃ w0, w0 = w := ⟨_, rfl⟩
 replace st := st.ownNil 63 3
 refine vc_seq (vc_region ?_)
 refine ya ?_
 refine vc_end (vq_then (vk1 0 (vc_seq (vc_region ?_))))
 refine ya ?_
 refine vc_end (vq_then (vk2 0 3 (vc_seq (vc_region ?_))))
 iterate 2 refine ym ?_
 refine vc_e (e_appr (bytes := 32) (len' := ds.length) (ys := ds.flatMap dcL) st 0 rfl rfl rfl rfl rfl (DcRow.rd (S := (· < n0)) (RowC.kept hD (Same.of_nil st.chg))) underlying23 Tryz.info63 rfl rfl rfl rfl rfl (dcs_len ds) (dcs_one ds) (by unfold maxLen; omega) (by omega) (by omega) (by simp) ?_)
 intro oaQ capQ w st; dsimp only [setNth] at st
 refine ya ?_
 refine vc_end (vq_then (vk1 2 (vc_ret ?_)))
 refine vq_ret1 st (.inl rfl) results68 (.tmp rfl) ?_
 refine ⟨_, rfl, ?_⟩
 exact ⟨oaQ, capQ, _, rfl, ⟨(st.ownNw (i := 0) rfl).1, rfl⟩, (st.ownNw (i := 0) rfl).2, st.chg⟩

set_option maxHeartbeats 1000000 in
theorem rcopyE_any : ∀ (n : Nat) (es : List Ex), szo es = n → OkEs es → ∀ (oa : Option Addr) (cap : Nat) (w : World), ExRow w (· < n0) oa es → n0 ≤ w.heap.size →
    Ret Tryz.prog 134 [.slice oa es.length cap] w fun v w' => ∃ oq cq Sq, v = .slice oq es.length cq ∧ ExRQ w' oq cq es Sq ∧ Nw w.heap.size Sq ∧ Chg [] w w' := by
 intro n
 refine Nat.strongRecOn n fun n ih => ?_
 intro es hn hok oa cap w hr hn0
 subst hn
 have hle := hok.1
 refine ret_of [_] func134 rfl ntmps134 rfl ?_
 have st := St.init w []
 obtain ⟨w0, rfl⟩ : ∃ w0, w0 = w := ⟨_, rfl⟩
 replace st := St.pushR (r := .tree [] (fun w => ExSs 42 w [] [] [])) st (Chg.refl _ _) (holds_of (by simp [ExSs]) (by simp) (fun a b h hk => h.kept hk)) (by simp [Res.at?])
 replace st := st.ownNil 42 6
 refine vc_seq (vc_region ?_)
 refine ya ?_
 refine vc_end (vq_then (vk1 0 (vc_seq (vc_region ?_))))
 refine ya ?_
 refine vc_end (vq_then (vk2 0 3 (vc_seq (vc_seq (vc_region ?_)))))
 refine ym ?_
 refine vy (y_lensl rfl underlying40) ?_
 refine ym ?_
 refine vc_end (vq_then (vk4 3 6 7 8 (vc_block ?_)))
 refine vc_loop (w0 := w0) (M := []) (fun (y : Nat × Option Addr × Nat × List Value × List Nat) => [(3, .slice y.2.1 y.1 y.2.2.1), (6, .slice oa es.length cap), (7, .int .i64 (es.length : Int)), (8, .int .i64 (y.1 : Int))]) (fun y => [.own (.slice y.2.1 y.1 y.2.2.1) 42 6 y.1 y.2.2.2.1, .tree y.2.2.2.2 (fun w => ExSs 42 w (es.take y.1) y.2.2.2.1 y.2.2.2.2)]) (fun y _ => y.1 ≤ es.length ∧ Nw w0.heap.size y.2.2.2.2) (fun y => es.length - y.1) (0, none, 0, [], []) ⟨rfl, rfl, rfl, rfl, trivial⟩ (by simpa using st) ⟨by simp, Nw.nil⟩ ?_
 clear st
 rintro ⟨j, oj, cj, xs, S⟩ w ⟨hj, hS⟩ st
 dsimp only at *
 refine vc_seq (vc_region ?_)
 refine vy (y_lss rfl rfl) ?_
 refine vc_end (vq_then (vk5 3 6 7 8 9 (vc_seq ?_)))
 refine vc_ifs rfl ?_ ?_
 ·intro hc9
  try simp only [dn] at hc9
  have stK := st
  obtain ⟨e, hej⟩ : ∃ e, es[j]? = some e := ⟨_, List.getElem?_eq_getElem (by omega)⟩
  obtain ⟨gb, go, rfl, hgS, hgl, hg⟩ := ExRow.at hr (by omega)
  obtain ⟨o0, c0, hV0, hr0, hc0⟩ := hg j e hej
  have hke := hok.2 j e hej
  have hz := mem_size hej
  have hz2 : szo e.kids < szo es := by have : szo e.kids < szo e := by cases e; exact ex_size
                                       omega
  have st := stK
  clear stK
  refine vc_code_skip (vq_then (vk4 3 6 7 8 (vc_seq (vc_block (vc_seq (vc_region ?_))))))
  refine vy (y_ia (k := j) rfl rfl underlying40 sizeOf42 rfl (by omega)) ?_
  refine vy (y_ldca (exL e o0 c0) rfl isAgg42 sizeOf42 rfl (fun i v hi => st.chg.cell (hc0 i v hi) (by simp))) ?_
  refine vc_e (e_al (l := [_, _, _, _, _, _]) st rfl rfl zeroValue42 rfl ?_)
  intro b5 w hb5 st
  refine vc_e (e_sts (vs := [_, _, _, _, _, _]) st 0 rfl rfl rfl rfl rfl sizeOf42 rfl rfl (by (right; assumption)) ?_)
  intro w st; dsimp only [setNth, wr] at st
  refine vc_end (vq_then (vk5 3 5 6 7 8 (vc_seq (vc_region ?_))))
  refine yfz 4 underlying42 sizeOf40 ?_
  refine yl st 0 isAgg40 ?_
  refine vc_e (e_call [_] rfl rfl call134 rfl (ih _ hz2 e.kids rfl hke.kids _ _ _ (hr0.kept (Same.of_nil st.chg)) (Nat.le_trans hn0 st.chg.size)) ?_)
  rintro _ w ⟨oq, cq, Sq, rfl, hQ, hN, cw⟩
  have hN9 := hN.le st.chg.size
  replace st := St.pushR (r := .tree Sq (fun w => ExRQ w oq cq e.kids Sq)) st cw (holds_of hQ hQ.lt (fun a b h hk => h.kept hk)) hN.2
  refine yfz 4 underlying42 sizeOf40 ?_
  refine vc_e (e_st st 1 rfl rfl rfl rfl sizeOf40 rfl rfl (by (right; assumption)) ?_)
  intro w st; dsimp only [setNth, wr] at st
  refine vc_end (vq_then (vk5 3 5 6 7 8 (vc_region ?_)))
  refine ym ?_
  refine yla st 1 [_, _, _, _, _, _] isAgg42 sizeOf42 ?_
  refine vc_e (e_bs1 (l := [_, _, _, _, _, _]) st rfl rfl rfl rfl underlying40 sizeOf42 rfl rfl rfl zeroValue42 ?_)
  intro b18 w hb18 st
  refine vc_e (e_app (bytes := 64) st 3 0 rfl rfl rfl rfl rfl rfl underlying40 Tryz.info42 rfl rfl rfl rfl rfl (by simp) rfl rfl (by unfold maxLen; omega) (by omega) ?_)
  intro oaQ capQ w st; dsimp only [setNth] at st
  refine ya ?_
  refine vc_end (vq_block (vq_then (vk4 3 6 7 8 (vc_region ?_))))
  have hne : ∀ b ∈ S, b ∉ Sq := fun b hb => st.ne (i := 4) (j := 1) (by decide) rfl rfl b hb
  have stN := st.pick [4, 1, 3] rfl (by decide)
  have h1 := (stN.res (i := 0) rfl).1
  have h2 := (stN.res (i := 1) rfl).1
  have h3 : ExSs 42 w (es.take (j + 1)) (xs ++ exL e oq cq) (S ++ Sq) := by rw [take_snoc hej]; exact ExSs.snoc h1 (ExS_iff.2 ⟨oq, cq, rfl, h2⟩)
  replace stN := (stN.join (q := .tree (S ++ Sq) fun w => ExSs 42 w (es.take (j + 1)) (xs ++ exL e oq cq) (S ++ Sq)) (fun k hk => List.mem_append.1 hk) (holds_of h3 h3.lt (fun a b h hk => h.kept hk))).pick [1, 0] rfl (by decide)
  refine vy (y_add rfl rfl (by omega : _ = ((j + 1 : Nat) : Int)) (by omega) (by omega)) ?_
  refine ym ?_
  refine vc_end ?_
  refine vq_again (j + 1, oaQ, capQ, xs ++ exL e oq cq, S ++ Sq)  ⟨rfl, rfl, rfl, rfl, trivial⟩ stN ?_ ?_
  ·exact ⟨by dsimp only; omega, hS.app hN9 hne⟩
  ·dsimp only; omega
 ·intro hc9
  try simp only [dn] at hc9
  refine vc_exit (vq_then_exit (vq_then_exit (vq_block_exit (vq_then (vk1 3 (vc_seq (vc_region ?_)))))))
  refine ym ?_
  refine ya ?_
  refine vc_end (vq_then (vk1 2 (vc_ret ?_)))
  refine vq_ret1 st (.inl rfl) results134 (.tmp rfl) ?_
  refine ⟨_, rfl, ?_⟩
  obtain rfl : j = es.length := by omega
  rw [List.take_length] at st
  obtain ⟨h1, h2⟩ := st.ownNw (i := 0) rfl
  have h3 := (st.res (i := 1) rfl).1
  exact ⟨oj, cj, obk oj ++ S, rfl, ⟨xs, S, h1, rfl, h3⟩, h2.app hS (fun b hb => st.ne (i := 0) (j := 1) (by decide) rfl rfl b (by simpa [Res.at?, obk_own] using hb)), st.chg⟩

set_option maxHeartbeats 1000000 in
theorem rcopyS_any : ∀ (n : Nat) (es : List Sm), szo es = n → OkSs es → ∀ (oa : Option Addr) (cap : Nat) (w : World), SmRow w (· < n0) oa es → n0 ≤ w.heap.size →
    Ret Tryz.prog 69 [.slice oa es.length cap] w fun v w' => ∃ oq cq Sq, v = .slice oq es.length cq ∧ SmRQ w' oq cq es Sq ∧ Nw w.heap.size Sq ∧ Chg [] w w' := by
 intro n
 refine Nat.strongRecOn n fun n ih => ?_
 intro es hn hok oa cap w hr hn0
 subst hn
 have hle := hok.1
 refine ret_of [_] func69 rfl ntmps69 rfl ?_
 have st := St.init w []
 obtain ⟨w0, rfl⟩ : ∃ w0, w0 = w := ⟨_, rfl⟩
 replace st := St.pushR (r := .tree [] (fun w => SmSs 42 67 w [] [] [])) st (Chg.refl _ _) (holds_of (by simp [SmSs]) (by simp) (fun a b h hk => h.kept hk)) (by simp [Res.at?])
 replace st := st.ownNil 67 7
 refine vc_seq (vc_region ?_)
 refine ya ?_
 refine vc_end (vq_then (vk1 0 (vc_seq (vc_region ?_))))
 refine ya ?_
 refine vc_end (vq_then (vk2 0 3 (vc_seq (vc_seq (vc_region ?_)))))
 refine ym ?_
 refine vy (y_lensl rfl underlying65) ?_
 refine ym ?_
 refine vc_end (vq_then (vk4 3 6 7 8 (vc_block ?_)))
 refine vc_loop (w0 := w0) (M := []) (fun (y : Nat × Option Addr × Nat × List Value × List Nat) => [(3, .slice y.2.1 y.1 y.2.2.1), (6, .slice oa es.length cap), (7, .int .i64 (es.length : Int)), (8, .int .i64 (y.1 : Int))]) (fun y => [.own (.slice y.2.1 y.1 y.2.2.1) 67 7 y.1 y.2.2.2.1, .tree y.2.2.2.2 (fun w => SmSs 42 67 w (es.take y.1) y.2.2.2.1 y.2.2.2.2)]) (fun y _ => y.1 ≤ es.length ∧ Nw w0.heap.size y.2.2.2.2) (fun y => es.length - y.1) (0, none, 0, [], []) ⟨rfl, rfl, rfl, rfl, trivial⟩ (by simpa using st) ⟨by simp, Nw.nil⟩ ?_
 clear st
 rintro ⟨j, oj, cj, xs, S⟩ w ⟨hj, hS⟩ st
 dsimp only at *
 refine vc_seq (vc_region ?_)
 refine vy (y_lss rfl rfl) ?_
 refine vc_end (vq_then (vk5 3 6 7 8 9 (vc_seq ?_)))
 refine vc_ifs rfl ?_ ?_
 ·intro hc9
  try simp only [dn] at hc9
  have stK := st
  obtain ⟨s, hsj⟩ : ∃ s, es[j]? = some s := ⟨_, List.getElem?_eq_getElem (by omega)⟩
  obtain ⟨gb, go, rfl, hgS, hgl, hg⟩ := SmRow.at hr (by omega)
  obtain ⟨oe, ob, ol, ce, cb, cl, hsV, hse, hsb, hsl, hc⟩ := hg j s hsj
  have hks := hok.2 j s hsj
  have hz := mem_size hsj
  have hB : szo s.body < szo es := by have : szo s.body < szo s := by cases s; exact sm_size.1
                                      omega
  have hL : szo s.els < szo es := by have : szo s.els < szo s := by cases s; exact sm_size.2
                                     omega
  have st := stK
  clear stK
  refine vc_code_skip (vq_then (vk4 3 6 7 8 (vc_seq (vc_block (vc_seq (vc_region ?_))))))
  refine vy (y_ia (k := j) rfl rfl underlying65 sizeOf67 rfl (by omega)) ?_
  refine vy (y_ldca (smL s oe ob ol ce cb cl) rfl isAgg67 sizeOf67 rfl (fun i v hi => st.chg.cell (hc i v hi) (by simp))) ?_
  refine vc_e (e_al (l := [_, _, _, _, _, _, _]) st rfl rfl zeroValue67 rfl ?_)
  intro b5 w hb5 st
  refine vc_e (e_sts (vs := [_, _, _, _, _, _, _]) st 0 rfl rfl rfl rfl rfl sizeOf67 rfl rfl (by (right; assumption)) ?_)
  intro w st; dsimp only [setNth, wr] at st
  refine vc_end (vq_then (vk5 3 5 6 7 8 (vc_seq (vc_region ?_))))
  refine yfz 3 underlying67 sizeOf40 ?_
  refine yl st 0 isAgg40 ?_
  refine vc_e (e_call [_] rfl rfl call134 rfl (rcopyE_any _ s.e rfl hks.e _ _ _ (hse.kept (Same.of_nil st.chg)) (Nat.le_trans hn0 st.chg.size)) ?_)
  rintro _ w ⟨q1, c1, S1, rfl, hQ, hN, cw⟩
  have hN1 := hN.le st.chg.size
  replace st := St.pushR (r := .tree S1 (fun w => ExRQ w q1 c1 s.e S1)) st cw (holds_of hQ hQ.lt (fun a b h hk => h.kept hk)) hN.2
  refine yfz 3 underlying67 sizeOf40 ?_
  refine vc_e (e_st st 1 rfl rfl rfl rfl sizeOf40 rfl rfl (by (right; assumption)) ?_)
  intro w st; dsimp only [setNth, wr] at st
  refine vc_end (vq_then (vk5 3 5 6 7 8 (vc_seq (vc_region ?_))))
  refine yfz 4 underlying67 sizeOf65 ?_
  refine yl st 1 isAgg65 ?_
  refine vc_e (e_call [_] rfl rfl call69 rfl (ih _ hB s.body rfl hks.body _ _ _ (hsb.kept (Same.of_nil st.chg)) (Nat.le_trans hn0 st.chg.size)) ?_)
  rintro _ w ⟨q2, c2, S2, rfl, hQ, hN, cw⟩
  have hN2 := hN.le st.chg.size
  replace st := St.pushR (r := .tree S2 (fun w => SmRQ w q2 c2 s.body S2)) st cw (holds_of hQ hQ.lt (fun a b h hk => h.kept hk)) hN.2
  refine yfz 4 underlying67 sizeOf65 ?_
  refine vc_e (e_st st 2 rfl rfl rfl rfl sizeOf65 rfl rfl (by (right; assumption)) ?_)
  intro w st; dsimp only [setNth, wr] at st
  refine vc_end (vq_then (vk5 3 5 6 7 8 (vc_seq (vc_region ?_))))
  refine yfz 5 underlying67 sizeOf65 ?_
  refine yl st 2 isAgg65 ?_
  refine vc_e (e_call [_] rfl rfl call69 rfl (ih _ hL s.els rfl hks.els _ _ _ (hsl.kept (Same.of_nil st.chg)) (Nat.le_trans hn0 st.chg.size)) ?_)
  rintro _ w ⟨q3, c3, S3, rfl, hQ, hN, cw⟩
  have hN3 := hN.le st.chg.size
  replace st := St.pushR (r := .tree S3 (fun w => SmRQ w q3 c3 s.els S3)) st cw (holds_of hQ hQ.lt (fun a b h hk => h.kept hk)) hN.2
  refine yfz 5 underlying67 sizeOf65 ?_
  refine vc_e (e_st st 3 rfl rfl rfl rfl sizeOf65 rfl rfl (by (right; assumption)) ?_)
  intro w st; dsimp only [setNth, wr] at st
  refine vc_end (vq_then (vk5 3 5 6 7 8 (vc_region ?_)))
  refine ym ?_
  refine yla st 3 [_, _, _, _, _, _, _] isAgg67 sizeOf67 ?_
  refine vc_e (e_bs1 (l := [_, _, _, _, _, _, _]) st rfl rfl rfl rfl underlying65 sizeOf67 rfl rfl rfl zeroValue67 ?_)
  intro b26 w hb26 st
  refine vc_e (e_app (bytes := 120) st 5 0 rfl rfl rfl rfl rfl rfl underlying65 Tryz.info67 rfl rfl rfl rfl rfl (by simp) rfl rfl (by unfold maxLen; omega) (by omega) ?_)
  intro oaQ capQ w st; dsimp only [setNth] at st
  refine ya ?_
  refine vc_end (vq_block (vq_then (vk4 3 6 7 8 (vc_region ?_))))
  have d23 := st.ne (i := 2) (j := 1) (by decide) rfl rfl
  have d12 := st.ne (i := 3) (j := 2) (by decide) rfl rfl
  have d13 := st.ne (i := 3) (j := 1) (by decide) rfl rfl
  have dS1 := st.ne (i := 6) (j := 3) (by decide) rfl rfl
  have dS2 := st.ne (i := 6) (j := 2) (by decide) rfl rfl
  have dS3 := st.ne (i := 6) (j := 1) (by decide) rfl rfl
  have hNq := hN1.app (hN2.app hN3 d23) (fun b hb hb' => (List.mem_append.1 hb').elim (d12 b hb) (d13 b hb))
  have hne : ∀ b ∈ S, b ∉ S1 ++ (S2 ++ S3) := fun b hb hb' => (List.mem_append.1 hb').elim (dS1 b hb) fun h => (List.mem_append.1 h).elim (dS2 b hb) (dS3 b hb)
  have h0 := (st.res (i := 6) rfl).1
  have h1 := (st.res (i := 3) rfl).1
  have h2 := (st.res (i := 2) rfl).1
  have h3 := (st.res (i := 1) rfl).1
  have h4 : SmSs 42 67 w (es.take (j + 1)) (xs ++ smL s q1 q2 q3 c1 c2 c3) (S ++ (S1 ++ (S2 ++ S3))) := by rw [take_snoc hsj]; exact SmSs.snoc h0 (SmS_iff.2 ⟨q1, c1, q2, c2, q3, c3, S1, S2, S3, rfl, h1, h2, h3, rfl⟩)
  have stN := (((st.pick [6, 3, 2, 1, 5] rfl (by decide)).joinN 4 (q := .tree (S ++ (S1 ++ (S2 ++ S3))) fun w => SmSs 42 67 w (es.take (j + 1)) (xs ++ smL s q1 q2 q3 c1 c2 c3) (S ++ (S1 ++ (S2 ++ S3)))) (fun k hk => by
    simp only [Res.at?, List.mem_append] at hk
    rcases hk with h | h | h | h
    · exact ⟨_, .head _, h⟩
    · exact ⟨_, .tail _ (.head _), h⟩
    · exact ⟨_, .tail _ (.tail _ (.head _)), h⟩
    · exact ⟨_, .tail _ (.tail _ (.tail _ (.head _))), h⟩) (holds_of h4 h4.lt (fun a b h hk => h.kept hk)))).pick [1, 0] rfl (by decide)
  refine vy (y_add rfl rfl (by omega : _ = ((j + 1 : Nat) : Int)) (by omega) (by omega)) ?_
  refine ym ?_
  refine vc_end ?_
  refine vq_again (j + 1, oaQ, capQ, xs ++ smL s q1 q2 q3 c1 c2 c3, S ++ (S1 ++ (S2 ++ S3)))  ⟨rfl, rfl, rfl, rfl, trivial⟩ stN ?_ ?_
  ·exact ⟨by dsimp only; omega, hS.app hNq hne⟩
  ·dsimp only; omega
 ·intro hc9
  try simp only [dn] at hc9
  refine vc_exit (vq_then_exit (vq_then_exit (vq_block_exit (vq_then (vk1 3 (vc_seq (vc_region ?_)))))))
  refine ym ?_
  refine ya ?_
  refine vc_end (vq_then (vk1 2 (vc_ret ?_)))
  refine vq_ret1 st (.inl rfl) results69 (.tmp rfl) ?_
  refine ⟨_, rfl, ?_⟩
  obtain rfl : j = es.length := by omega
  rw [List.take_length] at st
  obtain ⟨h1, h2⟩ := st.ownNw (i := 0) rfl
  have h3 := (st.res (i := 1) rfl).1
  exact ⟨oj, cj, obk oj ++ S, rfl, ⟨xs, S, h1, rfl, h3⟩, h2.app hS (fun b hb => st.ne (i := 0) (j := 1) (by decide) rfl rfl b (by simpa [Res.at?, obk_own] using hb)), st.chg⟩

end
end Go.Proofs.YtnmhlpnapgojjaaGreatDoor


namespace Go.Proofs.YtnmhlpnapgojjaaGreatDoor
open Go.RowKit Sx LexS _root_.Go.Proofs.Tryz
section
variable {n0 : Nat}

set_option maxHeartbeats 1000000 in
theorem pcopyE_any : ∀ (n : Nat) (es : List Ex), szo es = n → OkEs es → ∀ (oa : Option Addr) (cap : Nat) (w : World), ExRow w (· < n0) oa es → n0 ≤ w.heap.size →
    Ret Tryz.prog 207 [.slice oa es.length cap] w fun v w' => ∃ oq cq Sq, v = .slice oq es.length cq ∧ ExRQ w' oq cq es Sq ∧ Nw w.heap.size Sq ∧ Chg [] w w' := by
 intro n
 refine Nat.strongRecOn n fun n ih => ?_
 intro es hn hok oa cap w hr hn0
 subst hn
 have hle := hok.1
 refine ret_of [_] func207 rfl ntmps207 rfl ?_
 have st := St.init w []
 obtain ⟨w0, rfl⟩ : ∃ w0, w0 = w := ⟨_, rfl⟩
 replace st := St.pushR (r := .tree [] (fun w => ExSs 42 w [] [] [])) st (Chg.refl _ _) (holds_of (by simp [ExSs]) (by simp) (fun a b h hk => h.kept hk)) (by simp [Res.at?])
 replace st := st.ownNil 42 6
 refine vc_seq (vc_region ?_)
 refine ya ?_
 refine vc_end (vq_then (vk1 0 (vc_seq (vc_region ?_))))
 refine ya ?_
 refine vc_end (vq_then (vk2 0 3 (vc_seq (vc_seq (vc_region ?_)))))
 refine ym ?_
 refine vy (y_lensl rfl underlying40) ?_
 refine ym ?_
 refine vc_end (vq_then (vk4 3 6 7 8 (vc_block ?_)))
 refine vc_loop (w0 := w0) (M := []) (fun (y : Nat × Option Addr × Nat × List Value × List Nat) => [(3, .slice y.2.1 y.1 y.2.2.1), (6, .slice oa es.length cap), (7, .int .i64 (es.length : Int)), (8, .int .i64 (y.1 : Int))]) (fun y => [.own (.slice y.2.1 y.1 y.2.2.1) 42 6 y.1 y.2.2.2.1, .tree y.2.2.2.2 (fun w => ExSs 42 w (es.take y.1) y.2.2.2.1 y.2.2.2.2)]) (fun y _ => y.1 ≤ es.length ∧ Nw w0.heap.size y.2.2.2.2) (fun y => es.length - y.1) (0, none, 0, [], []) ⟨rfl, rfl, rfl, rfl, trivial⟩ (by simpa using st) ⟨by simp, Nw.nil⟩ ?_
 clear st
 rintro ⟨j, oj, cj, xs, S⟩ w ⟨hj, hSS⟩ st
 dsimp only at *
 refine vc_seq (vc_region ?_)
 refine vy (y_lss rfl rfl) ?_
 refine vc_end (vq_then (vk5 3 6 7 8 9 (vc_seq ?_)))
 refine vc_ifs rfl ?_ ?_
 ·intro hc9
  try simp only [dn] at hc9
  have stK := st
  obtain ⟨e, hej⟩ : ∃ e, es[j]? = some e := ⟨_, List.getElem?_eq_getElem (by omega)⟩
  obtain ⟨gb, go, rfl, hgS, hgl, hg⟩ := ExRow.at hr (by omega)
  obtain ⟨o0, c0, hV0, hr0, hc0⟩ := hg j e hej
  have hke := hok.2 j e hej
  have hz := mem_size hej
  have hz2 : szo e.kids < szo es := by have : szo e.kids < szo e := by cases e; exact ex_size
                                       omega
  have st := stK
  clear stK
  refine vc_code_skip (vq_then (vk4 3 6 7 8 (vc_seq (vc_block (vc_seq (vc_region ?_))))))
  refine vy (y_ia (k := j) rfl rfl underlying40 sizeOf42 rfl (by omega)) ?_
  refine vy (y_ldca (exL e o0 c0) rfl isAgg42 sizeOf42 rfl (fun i v hi => st.chg.cell (hc0 i v hi) (by simp))) ?_
  refine vc_e (e_al (l := [_, _, _, _, _, _]) st rfl rfl zeroValue42 rfl ?_)
  intro b5 w hb5 st
  refine vc_e (e_sts (vs := [_, _, _, _, _, _]) st 0 rfl rfl rfl rfl rfl sizeOf42 rfl rfl (by (right; assumption)) ?_)
  intro w st; dsimp only [setNth, wr] at st
  refine vc_end (vq_then (vk5 3 5 6 7 8 (vc_seq (vc_region ?_))))
  refine yfz 4 underlying42 sizeOf40 ?_
  refine yl st 0 isAgg40 ?_
  refine vc_e (e_call [_] rfl rfl call207 rfl (ih _ hz2 e.kids rfl hke.kids _ _ _ (hr0.kept (Same.of_nil st.chg)) (Nat.le_trans hn0 st.chg.size)) ?_)
  rintro _ w ⟨oq, cq, Sq, rfl, hQ, hN, cw⟩
  have hN9 := hN.le st.chg.size
  replace st := St.pushR (r := .tree Sq (fun w => ExRQ w oq cq e.kids Sq)) st cw (holds_of hQ hQ.lt (fun a b h hk => h.kept hk)) hN.2
  refine yfz 4 underlying42 sizeOf40 ?_
  refine vc_e (e_st st 1 rfl rfl rfl rfl sizeOf40 rfl rfl (by (right; assumption)) ?_)
  intro w st; dsimp only [setNth, wr] at st
  refine vc_end (vq_then (vk5 3 5 6 7 8 (vc_region ?_)))
  refine ym ?_
  refine yla st 1 [_, _, _, _, _, _] isAgg42 sizeOf42 ?_
  refine vc_e (e_bs1 (l := [_, _, _, _, _, _]) st rfl rfl rfl rfl underlying40 sizeOf42 rfl rfl rfl zeroValue42 ?_)
  intro b18 w hb18 st
  refine vc_e (e_app (bytes := 64) st 3 0 rfl rfl rfl rfl rfl rfl underlying40 Tryz.info42 rfl rfl rfl rfl rfl (by simp) rfl rfl (by unfold maxLen; omega) (by omega) ?_)
  intro oaQ capQ w st; dsimp only [setNth] at st
  refine ya ?_
  refine vc_end (vq_block (vq_then (vk4 3 6 7 8 (vc_region ?_))))
  have hne : ∀ b ∈ S, b ∉ Sq := fun b hb => st.ne (i := 4) (j := 1) (by decide) rfl rfl b hb
  have stN := st.pick [4, 1, 3] rfl (by decide)
  have h1 := (stN.res (i := 0) rfl).1
  have h2 := (stN.res (i := 1) rfl).1
  have h3 : ExSs 42 w (es.take (j + 1)) (xs ++ exL e oq cq) (S ++ Sq) := by rw [take_snoc hej]; exact ExSs.snoc h1 (ExS_iff.2 ⟨oq, cq, rfl, h2⟩)
  replace stN := (stN.join (q := .tree (S ++ Sq) fun w => ExSs 42 w (es.take (j + 1)) (xs ++ exL e oq cq) (S ++ Sq)) (fun k hk => List.mem_append.1 hk) (holds_of h3 h3.lt (fun a b h hk => h.kept hk))).pick [1, 0] rfl (by decide)
  refine vy (y_add rfl rfl (by omega : _ = ((j + 1 : Nat) : Int)) (by omega) (by omega)) ?_
  refine ym ?_
  refine vc_end ?_
  refine vq_again (j + 1, oaQ, capQ, xs ++ exL e oq cq, S ++ Sq)  ⟨rfl, rfl, rfl, rfl, trivial⟩ stN ?_ ?_
  ·exact ⟨by dsimp only; omega, hSS.app hN9 hne⟩
  ·dsimp only; omega
 ·intro hc9
  try simp only [dn] at hc9
  refine vc_exit (vq_then_exit (vq_then_exit (vq_block_exit (vq_then (vk1 3 (vc_seq (vc_region ?_)))))))
  refine ym ?_
  refine ya ?_
  refine vc_end (vq_then (vk1 2 (vc_ret ?_)))
  refine vq_ret1 st (.inl rfl) results207 (.tmp rfl) ?_
  refine ⟨_, rfl, ?_⟩
  obtain rfl : j = es.length := by omega
  rw [List.take_length] at st
  obtain ⟨h1, h2⟩ := st.ownNw (i := 0) rfl
  have h3 := (st.res (i := 1) rfl).1
  exact ⟨oj, cj, obk oj ++ S, rfl, ⟨xs, S, h1, rfl, h3⟩, h2.app hSS (fun b hb => st.ne (i := 0) (j := 1) (by decide) rfl rfl b (by simpa [Res.at?, obk_own] using hb)), st.chg⟩

set_option maxHeartbeats 1000000 in
theorem pcopyS_any : ∀ (n : Nat) (es : List Sm), szo es = n → OkSs es → ∀ (oa : Option Addr) (cap : Nat) (w : World), SmRow w (· < n0) oa es → n0 ≤ w.heap.size →
    Ret Tryz.prog 158 [.slice oa es.length cap] w fun v w' => ∃ oq cq Sq, v = .slice oq es.length cq ∧ SmRQ w' oq cq es Sq ∧ Nw w.heap.size Sq ∧ Chg [] w w' := by
 intro n
 refine Nat.strongRecOn n fun n ih => ?_
 intro es hn hok oa cap w hr hn0
 subst hn
 have hle := hok.1
 refine ret_of [_] func158 rfl ntmps158 rfl ?_
 have st := St.init w []
 obtain ⟨w0, rfl⟩ : ∃ w0, w0 = w := ⟨_, rfl⟩
 replace st := St.pushR (r := .tree [] (fun w => SmSs 42 67 w [] [] [])) st (Chg.refl _ _) (holds_of (by simp [SmSs]) (by simp) (fun a b h hk => h.kept hk)) (by simp [Res.at?])
 replace st := st.ownNil 67 7
 refine vc_seq (vc_region ?_)
 refine ya ?_
 refine vc_end (vq_then (vk1 0 (vc_seq (vc_region ?_))))
 refine ya ?_
 refine vc_end (vq_then (vk2 0 3 (vc_seq (vc_seq (vc_region ?_)))))
 refine ym ?_
 refine vy (y_lensl rfl underlying65) ?_
 refine ym ?_
 refine vc_end (vq_then (vk4 3 6 7 8 (vc_block ?_)))
 refine vc_loop (w0 := w0) (M := []) (fun (y : Nat × Option Addr × Nat × List Value × List Nat) => [(3, .slice y.2.1 y.1 y.2.2.1), (6, .slice oa es.length cap), (7, .int .i64 (es.length : Int)), (8, .int .i64 (y.1 : Int))]) (fun y => [.own (.slice y.2.1 y.1 y.2.2.1) 67 7 y.1 y.2.2.2.1, .tree y.2.2.2.2 (fun w => SmSs 42 67 w (es.take y.1) y.2.2.2.1 y.2.2.2.2)]) (fun y _ => y.1 ≤ es.length ∧ Nw w0.heap.size y.2.2.2.2) (fun y => es.length - y.1) (0, none, 0, [], []) ⟨rfl, rfl, rfl, rfl, trivial⟩ (by simpa using st) ⟨by simp, Nw.nil⟩ ?_
 clear st
 rintro ⟨j, oj, cj, xs, S⟩ w ⟨hj, hSS⟩ st
 dsimp only at *
 refine vc_seq (vc_region ?_)
 refine vy (y_lss rfl rfl) ?_
 refine vc_end (vq_then (vk5 3 6 7 8 9 (vc_seq ?_)))
 refine vc_ifs rfl ?_ ?_
 ·intro hc9
  try simp only [dn] at hc9
  have stK := st
  obtain ⟨s, hsj⟩ : ∃ s, es[j]? = some s := ⟨_, List.getElem?_eq_getElem (by omega)⟩
  obtain ⟨gb, go, rfl, hgS, hgl, hg⟩ := SmRow.at hr (by omega)
  obtain ⟨oe, ob, ol, ce, cb, cl, hsV, hse, hsb, hsl, hc⟩ := hg j s hsj
  have hks := hok.2 j s hsj
  have hz := mem_size hsj
  have hB : szo s.body < szo es := by have : szo s.body < szo s := by cases s; exact sm_size.1
                                      omega
  have hL : szo s.els < szo es := by have : szo s.els < szo s := by cases s; exact sm_size.2
                                     omega
  have st := stK
  clear stK
  refine vc_code_skip (vq_then (vk4 3 6 7 8 (vc_seq (vc_block (vc_seq (vc_region ?_))))))
  refine vy (y_ia (k := j) rfl rfl underlying65 sizeOf67 rfl (by omega)) ?_
  refine vy (y_ldca (smL s oe ob ol ce cb cl) rfl isAgg67 sizeOf67 rfl (fun i v hi => st.chg.cell (hc i v hi) (by simp))) ?_
  refine vc_e (e_al (l := [_, _, _, _, _, _, _]) st rfl rfl zeroValue67 rfl ?_)
  intro b5 w hb5 st
  refine vc_e (e_sts (vs := [_, _, _, _, _, _, _]) st 0 rfl rfl rfl rfl rfl sizeOf67 rfl rfl (by (right; assumption)) ?_)
  intro w st; dsimp only [setNth, wr] at st
  refine vc_end (vq_then (vk5 3 5 6 7 8 (vc_seq ?_)))
  refine vk_draw Tryz.mixed [(0, true), (3, true), (6, true), (1, true), (4, true), (7, true), (2, false), (9, true), (5, false), (8, false), (10, false), (11, true), (12, false), (13, true), (14, false)] 10 (fun w => St _ _ [.blk b5 (.cells (smL s oe ob ol ce cb cl).toArray 67 (0, 0))] w) st.dr (by kernel_rfl) (by repeat (first | exact okQ_body | refine okQ_then ?_ | refine okQ_block ?_)) rfl (by kernel_rfl) rfl ?_
  intro w cd; replace st := st.call0 cd; clear cd
  have hS : St _ _ [.blk b5 (.cells (smL s oe ob ol ce cb cl).toArray 67 (0, 0))] w := st.dr
  refine vk_takeU rfl rfl rfl rfl (fun _ => hS) (fun w => (by exact y_faz (k := 3) rfl underlying67 rfl rfl sizeOf40 rfl)) ?_
  refine vk_takeU rfl rfl rfl rfl (fun _ => hS) (fun w => (by exact y_faz (k := 4) rfl underlying67 rfl rfl sizeOf65 rfl)) ?_
  refine vk_takeU rfl rfl rfl rfl (fun _ => hS) (fun w => (by exact y_faz (k := 5) rfl underlying67 rfl rfl sizeOf65 rfl)) ?_
  refine vk_take rfl rfl rfl rfl hS (fun w st => y_ld st 0 rfl isAgg40 rfl rfl) ?_
  iterate 2 refine vk_take rfl rfl rfl rfl hS (fun w st => y_ld st 0 rfl isAgg65 rfl rfl) ?_
  refine vk_do rfl rfl (e_call [_] rfl rfl call207 rfl (pcopyE_any _ s.e rfl hks.e _ _ _ (hse.kept (Same.of_nil st.chg)) (Nat.le_trans hn0 st.chg.size)) ?_)
  rintro _ w ⟨q1, c1, S1, rfl, hQ, hN, cw⟩
  have hN1 := hN.le st.chg.size
  replace st := St.pushR (r := .tree S1 (fun w => ExRQ w q1 c1 s.e S1)) st cw (holds_of hQ hQ.lt (fun a b h hk => h.kept hk)) hN.2
  refine vk_next st.dr ?_; intro hS
  refine vk_takeU rfl rfl rfl rfl (fun _ => hS) (fun w => (by exact y_faz (k := 3) rfl underlying67 rfl rfl sizeOf40 rfl)) ?_
  refine vk_do rfl rfl (e_call [_] rfl rfl call158 rfl (ih _ hB s.body rfl hks.body _ _ _ (hsb.kept (Same.of_nil st.chg)) (Nat.le_trans hn0 st.chg.size)) ?_)
  rintro _ w ⟨q2, c2, S2, rfl, hQ, hN, cw⟩
  have hN2 := hN.le st.chg.size
  replace st := St.pushR (r := .tree S2 (fun w => SmRQ w q2 c2 s.body S2)) st cw (holds_of hQ hQ.lt (fun a b h hk => h.kept hk)) hN.2
  refine vk_next st.dr ?_; intro hS
  refine vk_do rfl rfl (e_call [_] rfl rfl call158 rfl (ih _ hL s.els rfl hks.els _ _ _ (hsl.kept (Same.of_nil st.chg)) (Nat.le_trans hn0 st.chg.size)) ?_)
  rintro _ w ⟨q3, c3, S3, rfl, hQ, hN, cw⟩
  have hN3 := hN.le st.chg.size
  replace st := St.pushR (r := .tree S3 (fun w => SmRQ w q3 c3 s.els S3)) st cw (holds_of hQ hQ.lt (fun a b h hk => h.kept hk)) hN.2
  refine vk_next st.dr ?_; intro hS
  refine vk_do rfl rfl (e_st st 3 rfl rfl rfl rfl sizeOf40 rfl rfl (by (right; assumption)) ?_)
  intro w st; dsimp only [setNth, wr] at st
  refine vk_late ?_
  refine vk_takeU rfl rfl rfl rfl (fun h => by cases h) (fun w => (by exact y_faz (k := 4) rfl underlying67 rfl rfl sizeOf65 rfl)) ?_
  refine vk_do rfl rfl (e_st st 3 rfl rfl rfl rfl sizeOf65 rfl rfl (by (right; assumption)) ?_)
  intro w st; dsimp only [setNth, wr] at st
  refine vk_late ?_
  refine vk_takeU rfl rfl rfl rfl (fun h => by cases h) (fun w => (by exact y_faz (k := 5) rfl underlying67 rfl rfl sizeOf65 rfl)) ?_
  refine vk_do rfl rfl (e_st st 3 rfl rfl rfl rfl sizeOf65 rfl rfl (by (right; assumption)) ?_)
  intro w st; dsimp only [setNth, wr] at st
  refine vk_late ?_
  refine vk_end ?_
  refine vq_then (vk5 3 5 6 7 8 (vc_region ?_))
  refine ym ?_
  refine yla st 3 [_, _, _, _, _, _, _] isAgg67 sizeOf67 ?_
  refine vc_e (e_bs1 (l := [_, _, _, _, _, _, _]) st rfl rfl rfl rfl underlying65 sizeOf67 rfl rfl rfl zeroValue67 ?_)
  intro b26 w hb26 st
  refine vc_e (e_app (bytes := 120) st 5 0 rfl rfl rfl rfl rfl rfl underlying65 Tryz.info67 rfl rfl rfl rfl rfl (by simp) rfl rfl (by unfold maxLen; omega) (by omega) ?_)
  intro oaQ capQ w st; dsimp only [setNth] at st
  refine ya ?_
  refine vc_end (vq_block (vq_then (vk4 3 6 7 8 (vc_region ?_))))
  have d23 := st.ne (i := 2) (j := 1) (by decide) rfl rfl
  have d12 := st.ne (i := 3) (j := 2) (by decide) rfl rfl
  have d13 := st.ne (i := 3) (j := 1) (by decide) rfl rfl
  have dS1 := st.ne (i := 6) (j := 3) (by decide) rfl rfl
  have dS2 := st.ne (i := 6) (j := 2) (by decide) rfl rfl
  have dS3 := st.ne (i := 6) (j := 1) (by decide) rfl rfl
  have hNq := hN1.app (hN2.app hN3 d23) (fun b hb hb' => (List.mem_append.1 hb').elim (d12 b hb) (d13 b hb))
  have hne : ∀ b ∈ S, b ∉ S1 ++ (S2 ++ S3) := fun b hb hb' => (List.mem_append.1 hb').elim (dS1 b hb) fun h => (List.mem_append.1 h).elim (dS2 b hb) (dS3 b hb)
  have h0 := (st.res (i := 6) rfl).1
  have h1 := (st.res (i := 3) rfl).1
  have h2 := (st.res (i := 2) rfl).1
  have h3 := (st.res (i := 1) rfl).1
  have h4 : SmSs 42 67 w (es.take (j + 1)) (xs ++ smL s q1 q2 q3 c1 c2 c3) (S ++ (S1 ++ (S2 ++ S3))) := by rw [take_snoc hsj]; exact SmSs.snoc h0 (SmS_iff.2 ⟨q1, c1, q2, c2, q3, c3, S1, S2, S3, rfl, h1, h2, h3, rfl⟩)
  have stN := (((st.pick [6, 3, 2, 1, 5] rfl (by decide)).joinN 4 (q := .tree (S ++ (S1 ++ (S2 ++ S3))) fun w => SmSs 42 67 w (es.take (j + 1)) (xs ++ smL s q1 q2 q3 c1 c2 c3) (S ++ (S1 ++ (S2 ++ S3)))) (fun k hk => by
    simp only [Res.at?, List.mem_append] at hk
    rcases hk with h | h | h | h
    · exact ⟨_, .head _, h⟩
    · exact ⟨_, .tail _ (.head _), h⟩
    · exact ⟨_, .tail _ (.tail _ (.head _)), h⟩
    · exact ⟨_, .tail _ (.tail _ (.tail _ (.head _))), h⟩) (holds_of h4 h4.lt (fun a b h hk => h.kept hk)))).pick [1, 0] rfl (by decide)
  refine vy (y_add rfl rfl (by omega : _ = ((j + 1 : Nat) : Int)) (by omega) (by omega)) ?_
  refine ym ?_
  refine vc_end ?_
  refine vq_again (j + 1, oaQ, capQ, xs ++ smL s q1 q2 q3 c1 c2 c3, S ++ (S1 ++ (S2 ++ S3)))  ⟨rfl, rfl, rfl, rfl, trivial⟩ stN ?_ ?_
  ·exact ⟨by dsimp only; omega, hSS.app hNq hne⟩
  ·dsimp only; omega
 ·intro hc9
  try simp only [dn] at hc9
  refine vc_exit (vq_then_exit (vq_then_exit (vq_block_exit (vq_then (vk1 3 (vc_seq (vc_region ?_)))))))
  refine ym ?_
  refine ya ?_
  refine vc_end (vq_then (vk1 2 (vc_ret ?_)))
  refine vq_ret1 st (.inl rfl) results158 (.tmp rfl) ?_
  refine ⟨_, rfl, ?_⟩
  obtain rfl : j = es.length := by omega
  rw [List.take_length] at st
  obtain ⟨h1, h2⟩ := st.ownNw (i := 0) rfl
  have h3 := (st.res (i := 1) rfl).1
  exact ⟨oj, cj, obk oj ++ S, rfl, ⟨xs, S, h1, rfl, h3⟩, h2.app hSS (fun b hb => st.ne (i := 0) (j := 1) (by decide) rfl rfl b (by simpa [Res.at?, obk_own] using hb)), st.chg⟩

end
end Go.Proofs.YtnmhlpnapgojjaaGreatDoor


namespace Go.Proofs.YtnmhlpnapgojjaaGreatDoor
open Go.RowKit Sx LexS _root_.Go.Proofs.Tryz
theorem wrap_i64 (n : Int) (h : -9223372036854775808 ≤ n ∧ n ≤ 9223372036854775807) : IntKind.i64.wrap n = n := by
 simp only [IntKind.wrap, IntKind.bits, IntKind.signed]
 simp
 omega
theorem all_take' {α : Type} {p : α → Bool} {l : List α} {j : Nat} {x : α} (h : (l.take j).all p = true) (hx : l[j]? = some x) (hp : p x = true) : (l.take (j + 1)).all p = true := by
 obtain ⟨hj, e⟩ := List.getElem?_eq_some_iff.1 hx
 rw [List.take_succ_eq_append_getElem hj, List.all_append, h, e]
 simpa using hp
theorem all_no' {α : Type} {p : α → Bool} {l : List α} {j : Nat} {x : α} (hx : l[j]? = some x) (hp : p x = false) : l.all p = false := by
 rw [List.all_eq_false]
 exact ⟨x, List.mem_of_getElem? hx, by rw [hp]; simp⟩
theorem all_end {α : Type} {p : α → Bool} {l : List α} {j : Nat} (h : (l.take j).all p = true) (hj : l.length ≤ j) : l.all p = true := by
 rwa [List.take_of_length_le hj] at h
theorem rightSs_eq : ∀ (l : List Sm) (d : Nat), rightSs l d = l.all (rightS · d)
 | [], d => rfl
 | s :: r, d => by simp only [rightSs, List.all_cons]; rw [rightSs_eq r d]
theorem rightS_iff {s : Sm} {d : Nat} : rightS s d = true ↔ (1 ≤ s.k ∧ s.k ≤ 7) ∧ nmOk (hasN s.k) s.nm = true ∧ nmOk (decide (s.k = 2)) s.other = true ∧ rightX (hasE s.k) s.e = true ∧ (hasB s.k = true ∨ s.body.length = 0) ∧ (s.k = 3 ∨ s.els.length = 0) ∧
    ((hasB s.k = false ∧ s.els.length = 0) ∨ d < 64) ∧ rightSs s.body (d + 1) = true ∧ rightSs s.els (d + 1) = true := by
 cases s with
 | mk k nm other e body els a =>
  simp only [rightS, Bool.and_eq_true, Bool.or_eq_true, decide_eq_true_eq, Bool.not_eq_true', Bool.or_eq_false_iff, decide_eq_false_iff_not, Sm.k, Sm.nm, Sm.other, Sm.e, Sm.body, Sm.els]
  have e : (¬ 0 < els.length) ↔ els.length = 0 := by omega
  rw [e]
  constructor
  ·rintro ⟨⟨⟨⟨⟨⟨⟨⟨h1, h2⟩, h3⟩, h4⟩, h5⟩, h6⟩, h7⟩, h8⟩, h9⟩
   exact ⟨h1, h2, h3, h4, h5, h6, h7, h8, h9⟩
  ·rintro ⟨h1, h2, h3, h4, h5, h6, h7, h8, h9⟩
   exact ⟨⟨⟨⟨⟨⟨⟨⟨h1, h2⟩, h3⟩, h4⟩, h5⟩, h6⟩, h7⟩, h8⟩, h9⟩
theorem rightX_t {e : List Ex} {x : Ex} (h : e.length = 1) (hx : e[0]? = some x) : rightX true e = rightE x 0 := by
 rw [one_form h hx]; rfl
theorem rightX_n {e : List Ex} (h : e.length ≠ 1) : rightX true e = false := by
 unfold rightX
 rcases e with _ | ⟨x, _ | ⟨y, r⟩⟩ <;> simp_all
theorem rightX_f {e : List Ex} : rightX false e = decide (e.length = 0) := rfl
theorem rightS_no {l : List Sm} {s : Sm} {d j : Nat} (hj : l[j]? = some s) (h : rightS s d = true → False) : Value.bool false = Value.bool (rightSs l d) := by
 rw [rightSs_no (s := s) (by cases hr : rightS s d; rfl; exact (h hr).elim) hj]
theorem sm_kids (s : Sm) : szo s.body < szo s ∧ szo s.els < szo s := by cases s; exact sm_size
/-- what a kind of statement has -/
abbrev shpL (k : Int) : List Value := [.bool (hasN k), .bool (decide (k = 2)), .bool (hasE k), .bool (hasB k), .bool (decide (k = 3))]
def tabL : List Value := [.bool false, .bool false, .bool false, .bool false, .bool false,
  .bool true, .bool false, .bool true, .bool false, .bool false, .bool true, .bool true, .bool true, .bool false, .bool false,
  .bool false, .bool false, .bool true, .bool true, .bool true, .bool false, .bool false, .bool true, .bool true, .bool false,
  .bool true, .bool false, .bool false, .bool true, .bool false, .bool false, .bool false, .bool true, .bool false, .bool false,
  .bool false, .bool false, .bool false, .bool false, .bool false]
theorem tab_at {w : World} {b E : Nat} (h : w.heap[b]? = some (.cells tabL.toArray E (0, 0))) {m : Nat} (hm : m < 8) : ∀ (i : Nat) v, (shpL m)[i]? = some v → w.cell? ⟨b, 0 + m * 5 + i, none⟩ = some v := by
 intro i v hi
 refine cell_nth h ?_
 rcases (show m = 0 ∨ m = 1 ∨ m = 2 ∨ m = 3 ∨ m = 4 ∨ m = 5 ∨ m = 6 ∨ m = 7 by omega) with rfl | rfl | rfl | rfl | rfl | rfl | rfl | rfl <;>
  (rcases i with _ | _ | _ | _ | _ | i <;> first | (simp at hi; done) | (simp at hi; subst hi; rfl))
end Go.Proofs.YtnmhlpnapgojjaaGreatDoor

