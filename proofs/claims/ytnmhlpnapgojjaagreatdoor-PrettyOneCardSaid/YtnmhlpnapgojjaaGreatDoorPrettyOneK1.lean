/- A part of the proof: contracts of functions and plain laws; each theorem says its own conditions. -/
import Derived.Laws.OwnMore
import Derived.Laws.StructEq
import Derived.Great.BuildSlice
import Derived.Lib.AppendStr
import Derived.Laws.BytesArg
import Derived.Laws.MakeOwn
import Derived.WalkKit
import Derived.ProofKit
import Derived.OpenShut
import Derived.ChangeOld
import Derived.OpenVars
import Derived.Below
import Derived.Lib.Bytealg
import Derived.Test.YtnmhlpnapgojjaaGreatDoorRows
import Derived.Test.YtnmhlpnapgojjaaGreatDoorPrettyOneK0
set_option linter.unusedVariables false
set_option linter.unusedSimpArgs false
/- The engine, fifth part: append. -/
namespace Sx
open Go Go.RowKit

section
variable {w0 w w' : World} {M : List Nat} {hs : List Res}

theorem St.app (st : St w0 M hs w) {i e size n n' : Nat} {v v' : Value} {xs xs' : List Value} (hi : nth hs i = some (.own v e size n xs)) (hg : w.grownBy w' v.ownBlock)
    (hown : w'.ownsRow w0.heap.size e size v' n' xs') (hat : v'.ownBlock = v.ownBlock ∨ v'.ownBlock = some w.heap.size) :
    St w0 M (setNth hs i (.own v' e size n' xs')) w' :=
  st.swap hi (Chg.of_grownByO hg) (by simp [Res.at?]) (fun k hk => .inr ((World.ownsRow.lt (st.res hi) k (by simpa using hk)).1)) (fun k hk => by
    simp only [Res.at?] at hk ⊢
    rcases hat with h | h
    · rw [h] at hk; exact .inl hk
    · rw [h] at hk; simp at hk; exact .inr (by omega)) hown

/-- an owned slice that is nil comes to be -/
theorem St.ownNil (st : St w0 M hs w) (e size : Nat) : St w0 M (.own (.slice none 0 0) e size 0 [] :: hs) w :=
  st.pushR (Chg.refl _ _) (World.ownsRow_nil w _ e size) (by simp [Res.at?, Value.ownBlock])

theorem ownsRow_base {base base' e size n : Nat} {v : Value} {xs : List Value} (h : w.ownsRow base e size v n xs) (hb : base' ≤ base) : w.ownsRow base' e size v n xs :=
  ⟨h.1, h.2.imp id fun ⟨g, cap, cur, h1, h2, h3⟩ => ⟨g, cap, cur, h1, Nat.le_trans hb h2, h3⟩⟩

/-- a callee hands back a row of its own -/
theorem St.pushOwn (st : St w0 M hs w) (c : Chg [] w w') {v : Value} {e size n : Nat} {xs : List Value} (h : w'.ownsRow w.heap.size e size v n xs) : St w0 M (.own v e size n xs :: hs) w' :=
  st.pushR c (ownsRow_base h st.chg.size) (fun k hk => (World.ownsRow.lt h k (by simpa [Res.at?] using hk)).1)

variable {P : Program} {n : Fr} {L : List Oper} {Q : Exit → Act → World → Prop} {kn : Kn} {N : Act → World → Prop}
variable {d ty : Nat} {pos : String} {aft : Array Edge} {g : Option (Nat × Bool)}

/-- append(v, x..): an owned slice, and a row of new cells that is held -/
theorem e_app (st : St w0 M hs w) (i j : Nat) {T E size bytes m len c b : Nat} {x y : Operand} {v z : Value} {xs l : List Value} {fz : Nat × Nat} {ti : TypeInfo} (hw : gd L kn g = some true) (hd : okDst n (some d) = true)
    (hx : evO kn x = some v) (hy : evO kn y = some (.slice (some ⟨b, 0, none⟩) m c)) (hi : nth hs i = some (.own v E size len xs)) (hj : nth hs j = some (.blk b (.cells l.toArray E fz)))
    (ht : P.underlying T = some (.slice E)) (hinfo : P.info? E = some ti) (hz : ti.zero = some z) (hsize : ti.size = size) (hby : ti.bytes = bytes) (hzs : z.cells.size = size) (hsz : Nat.blt 0 size = true)
    (hl : l.length = m * size) (h1 : allOne l = true) (hm : Nat.blt 0 m = true) (h63 : len + m ≤ maxLen) (hbytes : (len + m) * bytes ≤ 140737488355328)
    (next : ∀ oa cap w', St w0 M (setNth hs i (.own (.slice oa (len + m) cap) E size (len + m) (xs ++ l))) w' → vN n N ((d, .slice oa (len + m) cap) :: kn) w') :
    vS P n L Q ⟨some d, .call ⟨.builtin .append, #[x, y], #[T, T]⟩, ty, pos, aft, g⟩ N kn w := by
  have hb : w.heap[b]? = some (.cells l.toArray E fz) := st.res hj
  have hm' : 0 < m := by simpa [Nat.blt_eq] using hm
  obtain ⟨v', w', hr, hown, hg, hnil, hat⟩ := run_append_own_at (P := P) w w0.heap.size T ty E ti z size bytes ht hinfo hz hsize hby hzs (by simpa [Nat.blt_eq] using hsz) v len xs (st.res hi) ⟨b, 0, none⟩ m c l hl
    (fun k u hk => by rw [addr_add]; exact cell_blk hb (by rw [nth_eq]; simpa using hk)) (allOne_spec h1) h63 hbytes st.chg.size
  obtain ⟨oa, cap, rfl⟩ : ∃ oa cap, v' = .slice oa (len + m) cap := by
    rcases hown.2 with ⟨rfl, h0⟩ | ⟨g, cap, cur, rfl, _⟩
    · omega
    · exact ⟨_, _, rfl⟩
  refine e_bi [v, .slice (some ⟨b, 0, none⟩) m c] hw hd (by simp [hx, hy]) (w' := w') (fun cs => ?_) (next oa cap w' (st.app hi hg hown hat))
  simp only [builtin, Sem.run_bind, List.toArray, hr]
  rfl
end
end Sx


/- The engine, sixth part: loads from a row that is owned. -/
namespace Sx
open Go Go.RowKit
section
variable {w0 w w' : World} {M : List Nat} {hs : List Res}
variable {P : Program} {n : Fr} {L : List Oper} {Q : Exit → Act → World → Prop} {kn : Kn} {N : Act → World → Prop}
variable {d ty : Nat} {pos : String} {aft : Array Edge} {g : Option (Nat × Bool)}

theorem own_cell {base e size len cap b off : Nat} {xs : List Value} {v : Value} (h : w.ownsRow base e size (.slice (some ⟨b, 0, none⟩) len cap) len xs) (hv : xs[off]? = some v) : w.cell? ⟨b, off, none⟩ = some v := by
  have hl : off < xs.length := (List.getElem?_eq_some_iff.1 hv).1
  rw [World.ownsRow.cellAt h off (by rw [← h.1]; exact hl), hv]

theorem y_ldo (st : St w0 M hs w) (i : Nat) {x : Operand} {T b off e size len cap : Nat} {xs : List Value} {v : Value} (hx : evO kn x = some (.pointer (some ⟨b, off, none⟩)))
  (ha : ∀ w, (Go.isAgg T).run P w = .ok false w) (hi : nth hs i = some (.own (.slice (some ⟨b, 0, none⟩) len cap) e size len xs)) (hv : xs[off]? = some v) : Y P n kn w ⟨some d, .load T x, ty, pos, aft, g⟩ v :=
  y_ldc hx ha (own_cell (st.res hi) hv)

theorem y_ldoa (st : St w0 M hs w) (i : Nat) {x : Operand} {T b off e size len cap sz : Nat} {xs : List Value} {vs : List Value} (hx : evO kn x = some (.pointer (some ⟨b, off, none⟩)))
  (ha : ∀ w, (Go.isAgg T).run P w = .ok true w) (hsz : ∀ w, (Go.sizeOf T).run P w = .ok sz w) (hi : nth hs i = some (.own (.slice (some ⟨b, 0, none⟩) len cap) e size len xs)) (hl : vs.length = sz)
  (hv : ∀ j v, vs[j]? = some v → xs[off + j]? = some v) : Y P n kn w ⟨some d, .load T x, ty, pos, aft, g⟩ (.agg vs.toArray) :=
  y_ldca vs hx ha hsz hl (fun j v hj => own_cell (st.res hi) (hv j v hj))

theorem own_form {base e size n : Nat} {v : Value} {xs : List Value} (h : w.ownsRow base e size v n xs) (hn : 0 < n) :
    ∃ g cap, v = .slice (some ⟨g, 0, none⟩) n cap ∧ base ≤ g := by
  rcases h.2 with ⟨_, h0⟩ | ⟨g, cap, cur, hv, hb, hg, _⟩
  · omega
  · exact ⟨g, cap, hv, hb⟩

end
end Sx


/- The engine, seventh part: append of a row that can be read; stores into a row that is owned; slice literals. -/
namespace Sx
open Go Go.RowKit
section
variable {w0 w w' : World} {M : List Nat} {hs : List Res}
variable {P : Program} {n : Fr} {L : List Oper} {Q : Exit → Act → World → Prop} {kn : Kn} {N : Act → World → Prop}
variable {d ty : Nat} {pos : String} {aft : Array Edge} {g : Option (Nat × Bool)}

/-- a slice literal, by its run -/
theorem e_bsn (st : St w0 M hs w) {T E len : Nat} {parts : Array (Nat × Operand)} {l : List Value} (vals : List (Nat × Value)) (hw : gd L kn g = some true) (hd : okDst n (some d) = true)
    (hv : parts.toList.map (fun p => (evO kn p.2).map (p.1, ·)) = vals.map some)
    (hrun : ∀ w, (Instr.buildSlice T len vals.toArray).run P w = .ok (.slice (some ⟨w.heap.size, 0, none⟩) len len) (w.alloc (.cells l.toArray E (0, 0))))
    (next : ∀ b w', w0.heap.size ≤ b → St w0 M (.blk b (.cells l.toArray E (0, 0)) :: hs) w' → vN n N ((d, .slice (some ⟨b, 0, none⟩) len len) :: kn) w') :
    vS P n L Q ⟨some d, .buildSlice T len parts, ty, pos, aft, g⟩ N kn w := by
  refine e_new st (v := .slice (some ⟨w.heap.size, 0, none⟩) len len) (l := l) (E := E) hw hd (fun a ha => ?_) (fun b w' e hb st' => by subst e; exact next _ w' hb st')
  have hargs : (parts.map fun (i, x) => (i, a.eval x)) = vals.toArray := by
    apply Array.toList_inj.1
    rw [Array.toList_map]
    generalize parts.toList = az at hv
    simp only
    clear hrun
    induction az generalizing vals with
    | nil => cases vals with | nil => rfl | cons v vs => simp at hv
    | cons x xs ih =>
      cases vals with
      | nil => simp at hv
      | cons v vs =>
        simp only [List.map_cons, List.cons.injEq] at hv
        obtain ⟨h1, h2⟩ := hv
        cases hx : evO kn x.2 with
        | none => simp [hx] at h1
        | some u =>
          simp only [hx, Option.map_some, Option.some.injEq] at h1
          subst h1
          simp only [List.map_cons, ha.ev hx, ih vs h2]
  simp only [execOp, hargs, Sem.run_bind, hrun, Result.andThen_ok, Sem.run_pure]

/-- a new row is owned -/
theorem St.toOwn {b E : Nat} {l : List Value} (st : St w0 M (.blk b (.cells l.toArray E (0, 0)) :: hs) w) {len size : Nat} (hb : w0.heap.size ≤ b) (hlen : l.length = len * size) (hm : len ≤ maxLen) :
    St w0 M (.own (.slice (some ⟨b, 0, none⟩) len len) E size len l :: hs) w := by
  have hh := st.res (i := 0) rfl
  refine st.turn0 (fun k hk => by simpa [Res.at?, Value.ownBlock] using hk) ⟨hlen, .inr ⟨b, len, l.toArray, rfl, hb, hh, Nat.le_refl _, hm, by simpa using hlen, ?_⟩⟩
  simp only [← hlen]
  exact List.take_of_length_le (by simp)
end
end Sx


/- The engine, twelfth part: slices of slices; what a row that is owned reads as. -/
namespace Sx
open Go Go.RowKit
section
variable {w0 w w' : World} {M : List Nat} {hs : List Res}
variable {P : Program} {n : Fr} {L : List Oper} {Q : Exit → Act → World → Prop} {kn : Kn} {N : Act → World → Prop}
variable {d ty : Nat} {pos : String} {aft : Array Edge} {g : Option (Nat × Bool)}

theorem addr_add0 (a : Addr) : a.add 0 = a := by unfold Addr.add; simp

/-- x[:j] of a slice -/
theorem y_slh {x hi : Operand} {T E sz j len cap : Nat} {oa : Option Addr} {jk : IntKind} {jj : Int} (hx : evO kn x = some (.slice oa len cap))
  (hhi : evO kn hi = some (.int jk jj)) (ht : P.underlying T = some (.slice E)) (hs : ∀ w, (Go.sizeOf E).run P w = .ok sz w) (hj1 : jj = (j : Int)) (hj : j ≤ cap) : Y P n kn w ⟨some d, .slice T x none (some hi) none, ty, pos, aft, g⟩ (.slice oa j cap) :=
  (fun a ha => by
    subst hj1
    have h2 : (j : Int) ≤ (cap : Int) := by omega
    simp only [execOp, Option.map_some, Option.map_none, ha.ev hx, ha.ev hhi]
    simp only [Instr.sliceAt, Instr.slice, Instr.sliceBounds, Instr.sliceBound, asIntOf, Sem.run_bind, run_underlying ht, Result.andThen_ok, hs]
    simp [hj, hs]
    intro _; cases oa <;> simp [addr_add0])
end
end Sx


/- The engine, thirteenth part: bytes: append of a string's, a string of bytes; max; make. -/
namespace Sx
open Go Go.RowKit Go.Lib

abbrev bytesL (l : List UInt8) : List Value := l.map fun b => Value.int .u8 (b.toNat : Int)
theorem strCells_eq (l : List UInt8) : strCells ⟨l.toArray⟩ = bytesL l := by simp [strCells]

section
variable {w0 w w' : World} {M : List Nat} {hs : List Res}
variable {P : Program} {n : Fr} {L : List Oper} {Q : Exit → Act → World → Prop} {kn : Kn} {N : Act → World → Prop}
variable {d ty : Nat} {pos : String} {aft : Array Edge} {g : Option (Nat × Bool)}

/-- a row that can be read, at a plain address -/
def RdRowP (w : World) (oa : Option Addr) (c : Nat) (l : List Value) : Prop := (oa = none ∧ l = [] ∧ c = 0) ∨ ∃ b off, oa = some ⟨b, off, none⟩ ∧ ∀ k u, l[k]? = some u → w.cell? ⟨b, off + k, none⟩ = some u
theorem own_rdp {base e size m c : Nat} {oa : Option Addr} {xs : List Value} (h : w.ownsRow base e size (.slice oa m c) m xs) : RdRowP w oa c xs := by
  rcases Nat.eq_zero_or_pos m with hm | hm
  · subst hm
    have h0 : xs = [] := by apply List.eq_nil_of_length_eq_zero; rw [h.1]; simp
    subst h0
    rcases h.2 with ⟨e, _⟩ | ⟨g, cap, cur, e, _⟩
    · simp only [Value.slice.injEq] at e; exact .inl ⟨e.1, rfl, e.2.2⟩
    · simp only [Value.slice.injEq] at e; exact .inr ⟨g, 0, e.1, fun k u hk => by simp at hk⟩
  · obtain ⟨g, cap, e, _⟩ := own_form h hm
    simp only [Value.slice.injEq] at e
    obtain ⟨rfl, -, rfl⟩ := e
    exact .inr ⟨g, 0, rfl, fun k u hk => by rw [Nat.zero_add]; exact own_cell h hk⟩
theorem app_str (base : Nat) {T U tyy E : Nat} {ti : TypeInfo} (ht : P.underlying T = some (.slice E)) (hu : P.underlying U = some .string) (hi : P.info? E = some ti) (hz : ti.zero = some (.int .u8 0)) (hsize : ti.size = 1) (hby : ti.bytes = 1)
    {v : Value} {m : Nat} {xs : List Value} (hown : w.ownsRow base E 1 v m xs) (p : List UInt8) (h63 : m + p.length ≤ maxLen) (hbytes : m + p.length ≤ 140737488355328) (hbase : base ≤ w.heap.size) :
    ∃ v' w', (Builtin.append_ #[T, U] tyy #[v, str p]).run P w = .ok v' w' ∧ w'.ownsRow base E 1 v' (m + p.length) (xs ++ bytesL p) ∧ w.grownBy w' v.ownBlock ∧ (∀ k, v'.ownBlock = some k → v.ownBlock = some k ∨ w.heap.size ≤ k) := by
  have hs : (⟨p.toArray⟩ : ByteArray).size = p.length := rfl
  obtain ⟨v', w', hr, ho, hg, hn⟩ := run_append_own_string (P := P) (ty := tyy) w base T U E ti ht hu hi hz hsize hby v m xs hown ⟨p.toArray⟩ h63 hbytes hbase
  rw [strCells_eq, hs] at ho
  refine ⟨v', w', hr, ho, hg, fun k hk => ?_⟩
  rcases hown.2 with ⟨rfl, rfl⟩ | ⟨b, cap, cur, rfl, hbg, hb, hnc, hcm, hcs, htake⟩
  · have hx : xs = [] := List.eq_nil_of_length_eq_zero (by simpa using hown.1)
    subst hx
    obtain ⟨v2, w2, hr2, ho2, _⟩ := run_append_own_string (P := P) (ty := tyy) w w.heap.size T U E ti ht hu hi hz hsize hby _ 0 [] (World.ownsRow_nil w _ E 1) ⟨p.toArray⟩ h63 hbytes (Nat.le_refl _)
    rw [hr] at hr2
    cases hr2
    exact .inr (World.ownsRow.lt ho2 k hk).1
  · have hcs' : cur.size = cap := by simpa using hcs
    have hxl : xs.length = m := by simpa using hown.1
    by_cases hroom : m + p.length ≤ cap
    · have hr2 := run_append_room_string (P := P) (ty := tyy) w T U E ti ht hu hi hsize b m cap cur hb ⟨p.toArray⟩ hroom (by rw [hs]; omega)
      rw [hr] at hr2
      cases hr2
      exact .inl hk
    · have hc : ∀ j u, xs[j]? = some u → w.cell? ((⟨b, 0, none⟩ : Addr).add j) = some u := World.ownsRow.cells hown rfl
      have hr2 := run_append_grow_string (P := P) (ty := tyy) w T U E ti (.int .u8 0) ht hu hi hz ⟨b, 0, none⟩ m cap xs (by rw [hsize]; simpa using hxl) hc ⟨p.toArray⟩ (by rw [hs]; omega) (by unfold maxLen at h63; omega) (by rw [hby]; exact growslice_fits (by omega) (by omega))
      rw [hr] at hr2
      cases hr2
      simp only [Value.ownBlock] at hk
      simp at hk
      exact .inr (by omega)

/-- string(bytes) -/
theorem y_b2s {x : Operand} {T U E m c : Nat} {oa : Option Addr} {p : List UInt8} (hx : evO kn x = some (.slice oa m c)) (hrd : RdRowP w oa c (bytesL p)) (hm : p.length = m)
    (ht : P.underlying T = some (.slice E)) (he : P.underlying E = some (.int .u8)) (hu : P.underlying U = some .string) : Y P n kn w ⟨some d, .convert T U x, ty, pos, aft, g⟩ (str p) := fun a ha => by
  simp only [execOp, ha.ev hx]
  rcases hrd with ⟨rfl, h0, rfl⟩ | ⟨b, off, rfl, hc⟩
  · obtain rfl : p = [] := by simpa [bytesL] using h0
    have := run_convert_bytes_nil (P := P) w T E ht he m 0 U hu
    simp [this]
    rfl
  · have := run_convert_bytes_arg (P := P) w T E ht he b off m c (p.map fun b => (b.toNat : Int)) (by simpa using hm) (fun i hi => by
      have hi' : i < p.length := by omega
      have h := hc i (.int .u8 (p[i].toNat : Int)) (by simp [bytesL, hi'])
      rw [h]
      simp [List.getD, hi']) U hu
    have e : strOfNums (p.map fun b => (b.toNat : Int)) = ⟨p.toArray⟩ := by
      simp [strOfNums, Function.comp_def]
    simp [this, e]

end
end Sx
namespace Sx
open Go Go.RowKit
section
variable {w0 w : World} {M : List Nat} {hs : List Res}
def pickL {α : Type} (l : List α) : List Nat → Option (List α)
  | [] => some []
  | i :: is => match nth l i with | none => none | some x => match pickL l is with | none => none | some r => some (x :: r)
theorem apart_nth {hs : List Res} (h : Apart hs) : ∀ {i j : Nat} {r s : Res}, i ≠ j → nth hs i = some r → nth hs j = some s → ∀ k ∈ r.at?, k ∉ s.at? := by
  induction hs with
  | nil => intro i j r s _ h; simp [nth] at h
  | cons x xs ih =>
    intro i j r s hij hi hj k hk hk'
    have hp := List.pairwise_cons.1 h
    cases i with
    | zero =>
      cases j with
      | zero => exact hij rfl
      | succ j => simp [nth] at hi hj; subst hi; exact hp.1 s (mem_nth hj) k hk hk'
    | succ i =>
      cases j with
      | zero => simp [nth] at hi hj; subst hj; exact hp.1 r (mem_nth hi) k hk' hk
      | succ j => simp [nth] at hi hj; exact ih hp.2 (by omega) hi hj k hk hk'
theorem mem_pick {α : Type} {l : List α} : ∀ {is : List Nat} {r : List α}, pickL l is = some r → ∀ x ∈ r, ∃ i ∈ is, nth l i = some x
  | [], r, h, x, hx => by simp [pickL] at h; subst h; simp at hx
  | i :: is, r, h, x, hx => by
    simp only [pickL] at h
    split at h
    · cases h
    · rename_i y hy
      split at h
      · cases h
      · rename_i q hq
        cases h
        rcases List.mem_cons.1 hx with rfl | hx
        · exact ⟨i, .head _, hy⟩
        · obtain ⟨j, hj, hn⟩ := mem_pick hq x hx
          exact ⟨j, .tail _ hj, hn⟩
/-- some of what is held, in another order -/
theorem St.pick (st : St w0 M hs w) (is : List Nat) {hs' : List Res} (h : pickL hs is = some hs') (hn : is.Nodup) : St w0 M hs' w := by
  refine ⟨st.chg, ?_, fun r hr => ?_⟩
  · have hnd := st.nodup
    clear st
    induction is generalizing hs' with
    | nil => simp [pickL] at h; subst h; exact List.Pairwise.nil
    | cons i is ih =>
      simp only [pickL] at h
      split at h
      · cases h
      · rename_i y hy
        split at h
        · cases h
        · rename_i q hq
          cases h
          have hn' := List.nodup_cons.1 hn
          refine List.pairwise_cons.2 ⟨fun s hs k hk => ?_, ih hq hn'.2⟩
          obtain ⟨j, hj, hs⟩ := mem_pick hq s hs
          exact apart_nth hnd (fun e => hn'.1 (by subst e; exact hj)) hy hs k hk
  · obtain ⟨i, _, hi⟩ := mem_pick h r hr
    exact st.here r (mem_nth hi)
end
end Sx


/- The engine, fourteenth part: arguments opened, and shut as they were. -/
namespace Sx
open Go Go.RowKit

section
variable {H : Type} {enc : TypeId × Value → H} {P : Program}

theorem trod_shut (hl : laidOutB P = true) {w w' : World} (hb : Below w.heap.size w w') {t : TypeId} {v : Value} {d : DataW H} {ps : List MemPlace} (hr : P.readableRec t = true) (ht : t < P.types.size)
    (h : DataW.Trod enc P w 0 (fun _ => true) true t v d ps) (hlt : ∀ x ∈ ps, x.block < w.heap.size) : DataW.Trod enc P w' 0 (fun b => decide (b < w.heap.size)) true t v d ps := by
  obtain ⟨fuel, hf⟩ := h
  exact ⟨fuel, DataW.trod_stays (kids_book hl hr) (book_sized hr) (fun h => by cases h) ⟨ht, book_self t⟩ hf (fun x hx => hb.same (hlt x hx)) (fun x hx => by simpa using hlt x hx)⟩

/-- all arguments read as they did, where nothing that was there has changed -/
theorem trodAll_shut (hl : laidOutB P = true) {w w' : World} (hb : Below w.heap.size w w') : ∀ {ts : List TypeId} {vs : List Value} {ds : List (DataW H)} {ps : List MemPlace}, (ts.all fun t => P.readableRec t && decide (t < P.types.size)) = true →
    DataW.TrodAll enc P w 0 (fun _ => true) true ts vs ds ps → (∀ x ∈ ps, x.block < w.heap.size) → DataW.TrodAll enc P w' 0 (fun b => decide (b < w.heap.size)) true ts vs ds ps
  | [], [], [], ps, _, h, _ => h
  | t :: ts, v :: vs, d :: ds, ps, hr, h, hlt => by
    obtain ⟨p, q, h1, h2, rfl⟩ := h
    simp only [List.all_cons, Bool.and_eq_true, decide_eq_true_eq] at hr
    exact ⟨p, q, trod_shut hl hb hr.1.1 hr.1.2 h1 (fun x hx => hlt x (List.mem_append.2 (.inl hx))), trodAll_shut hl hb (by simpa using hr.2) h2 (fun x hx => hlt x (List.mem_append.2 (.inr hx))), rfl⟩
  | [], [], _ :: _, _, _, h, _ => h.elim
  | [], _ :: _, _, _, _, h, _ => h.elim
  | _ :: _, [], _, _, _, h, _ => h.elim
  | _ :: _, _ :: _, [], _, _, h, _ => h.elim

end
end Sx


/- The engine, fifteenth part: the trees of the language, as memory holds them. -/
namespace Sx
open Go Go.RowKit

/-- an expression -/
inductive Ex where
  | mk (k op wd : Int) (nm : List UInt8) (kids : List Ex) (a : Int)
/-- a statement -/
inductive Sm where
  | mk (k : Int) (nm other : List UInt8) (e : List Ex) (body els : List Sm) (a : Int)
/-- a declaration -/
structure Dc where
  nm : List UInt8
  wd : Int
  a : Int
/-- a thread -/
structure Th where
  nm : List UInt8
  locals : List Dc
  body : List Sm
  a : Int
/-- a program -/
structure Pg where
  shared : List Dc
  locks : List Dc
  threads : List Th

def ex0 : Ex := .mk 0 0 0 [] [] 0
def dc0 : Dc := ⟨[], 0, 0⟩
namespace Ex
def k : Ex → Int | .mk k _ _ _ _ _ => k
def op : Ex → Int | .mk _ op _ _ _ _ => op
def wd : Ex → Int | .mk _ _ wd _ _ _ => wd
def nm : Ex → List UInt8 | .mk _ _ _ nm _ _ => nm
def kids : Ex → List Ex | .mk _ _ _ _ kids _ => kids
def a : Ex → Int | .mk _ _ _ _ _ a => a
end Ex
namespace Sm
def k : Sm → Int | .mk k _ _ _ _ _ _ => k
def nm : Sm → List UInt8 | .mk _ nm _ _ _ _ _ => nm
def other : Sm → List UInt8 | .mk _ _ o _ _ _ _ => o
def e : Sm → List Ex | .mk _ _ _ e _ _ _ => e
def body : Sm → List Sm | .mk _ _ _ _ b _ _ => b
def els : Sm → List Sm | .mk _ _ _ _ _ e _ => e
def a : Sm → Int | .mk _ _ _ _ _ _ a => a
end Sm

/-- a row of things of 'sz' cells, at blocks of 'S' -/
def RowC (w : World) (S : Nat → Prop) (sz : Nat) (oa : Option Addr) (n : Nat) (vs : Nat → List Value) : Prop :=
  n = 0 ∨ ∃ b off, oa = some ⟨b, off, none⟩ ∧ S b ∧ b < w.heap.size ∧ ∀ j, j < n → (vs j).length = sz ∧ ∀ i v, (vs j)[i]? = some v → w.cell? ⟨b, off + j * sz + i, none⟩ = some v

def Same (S : Nat → Prop) (w w' : World) : Prop := w.heap.size ≤ w'.heap.size ∧ ∀ b, S b → b < w.heap.size → w'.heap[b]? = w.heap[b]?
theorem Same.of_chg {M : List Nat} {S : Nat → Prop} {w w' : World} (c : Chg M w w') (h : ∀ b, S b → b ∉ M) : Same S w w' := ⟨c.size, fun b hb hl => c.block b hl (h b hb)⟩
theorem Same.of_nil {S : Nat → Prop} {w w' : World} (c : Chg [] w w') : Same S w w' := .of_chg c (by simp)
theorem RowC.kept {w w' : World} {S : Nat → Prop} {sz : Nat} {oa : Option Addr} {n : Nat} {vs : Nat → List Value} (h : RowC w S sz oa n vs) (k : Same S w w') : RowC w' S sz oa n vs :=
  h.imp id fun ⟨b, off, e, hb, hl, hc⟩ => ⟨b, off, e, hb, Nat.lt_of_lt_of_le hl k.1, fun j hj => ⟨(hc j hj).1, fun i v hi => (World.cell?_of_block (k.2 b hb hl)).trans ((hc j hj).2 i v hi)⟩⟩
theorem RowC.mono {w : World} {S S' : Nat → Prop} {sz : Nat} {oa : Option Addr} {n : Nat} {vs : Nat → List Value} (h : RowC w S sz oa n vs) (k : ∀ b, S b → S' b) : RowC w S' sz oa n vs :=
  h.imp id fun ⟨b, off, e, hb, hl, hc⟩ => ⟨b, off, e, k b hb, hl, hc⟩

/-- an expression's cells -/
inductive ExV (w : World) (S : Nat → Prop) : Ex → List Value → Prop
  | mk {k op wd : Int} {nm : List UInt8} {kids : List Ex} {a : Int} {oa : Option Addr} {cap : Nat} (vs : Nat → List Value) (hr : RowC w S 6 oa kids.length vs) (hk : ∀ j x, kids[j]? = some x → ExV w S x (vs j)) :
      ExV w S (.mk k op wd nm kids a) [.int .u8 k, .int .u8 op, .int .i64 wd, str nm, .slice oa kids.length cap, .int .i64 a]
theorem ExV.kept {w w' : World} {S : Nat → Prop} {e : Ex} {l : List Value} (h : ExV w S e l) (k : Same S w w') : ExV w' S e l := by
  induction h with
  | mk vs hr hk ih => exact .mk vs (hr.kept k) ih
theorem ExV.mono {w : World} {S S' : Nat → Prop} {e : Ex} {l : List Value} (h : ExV w S e l) (k : ∀ b, S b → S' b) : ExV w S' e l := by
  induction h with
  | mk vs hr hk ih => exact .mk vs (hr.mono k) ih
theorem ExV.len {w : World} {S : Nat → Prop} {e : Ex} {l : List Value} (h : ExV w S e l) : l.length = 6 := by cases h; rfl
/-- a row of expressions -/
def ExRow (w : World) (S : Nat → Prop) (oa : Option Addr) (es : List Ex) : Prop := ∃ vs, RowC w S 6 oa es.length vs ∧ ∀ j x, es[j]? = some x → ExV w S x (vs j)
theorem ExRow.kept {w w' : World} {S : Nat → Prop} {oa : Option Addr} {es : List Ex} (h : ExRow w S oa es) (k : Same S w w') : ExRow w' S oa es := by
  obtain ⟨vs, h1, h2⟩ := h
  exact ⟨vs, h1.kept k, fun j x hx => (h2 j x hx).kept k⟩
theorem ExRow.mono {w : World} {S S' : Nat → Prop} {oa : Option Addr} {es : List Ex} (h : ExRow w S oa es) (k : ∀ b, S b → S' b) : ExRow w S' oa es := by
  obtain ⟨vs, h1, h2⟩ := h
  exact ⟨vs, h1.mono k, fun j x hx => (h2 j x hx).mono k⟩
/-- a statement's cells -/
inductive SmV (w : World) (S : Nat → Prop) : Sm → List Value → Prop
  | mk {k : Int} {nm other : List UInt8} {e : List Ex} {body els : List Sm} {a : Int} {oe ob ol : Option Addr} {ce cb cl : Nat} (vb vl : Nat → List Value) (he : ExRow w S oe e)
      (hb : RowC w S 7 ob body.length vb) (hbk : ∀ j x, body[j]? = some x → SmV w S x (vb j)) (hl : RowC w S 7 ol els.length vl) (hlk : ∀ j x, els[j]? = some x → SmV w S x (vl j)) :
      SmV w S (.mk k nm other e body els a) [.int .u8 k, str nm, str other, .slice oe e.length ce, .slice ob body.length cb, .slice ol els.length cl, .int .i64 a]
theorem SmV.kept {w w' : World} {S : Nat → Prop} {s : Sm} {l : List Value} (h : SmV w S s l) (k : Same S w w') : SmV w' S s l := by
  induction h with
  | mk vb vl he hb hbk hl hlk ih1 ih2 => exact .mk vb vl (he.kept k) (hb.kept k) ih1 (hl.kept k) ih2
theorem SmV.mono {w : World} {S S' : Nat → Prop} {s : Sm} {l : List Value} (h : SmV w S s l) (k : ∀ b, S b → S' b) : SmV w S' s l := by
  induction h with
  | mk vb vl he hb hbk hl hlk ih1 ih2 => exact .mk vb vl (he.mono k) (hb.mono k) ih1 (hl.mono k) ih2
def SmRow (w : World) (S : Nat → Prop) (oa : Option Addr) (ss : List Sm) : Prop := ∃ vs, RowC w S 7 oa ss.length vs ∧ ∀ j x, ss[j]? = some x → SmV w S x (vs j)
theorem SmRow.kept {w w' : World} {S : Nat → Prop} {oa : Option Addr} {es : List Sm} (h : SmRow w S oa es) (k : Same S w w') : SmRow w' S oa es := by
  obtain ⟨vs, h1, h2⟩ := h
  exact ⟨vs, h1.kept k, fun j x hx => (h2 j x hx).kept k⟩
theorem SmRow.mono {w : World} {S S' : Nat → Prop} {oa : Option Addr} {es : List Sm} (h : SmRow w S oa es) (k : ∀ b, S b → S' b) : SmRow w S' oa es := by
  obtain ⟨vs, h1, h2⟩ := h
  exact ⟨vs, h1.mono k, fun j x hx => (h2 j x hx).mono k⟩
/-- declarations -/
def dcL (d : Dc) : List Value := [str d.nm, .int .i64 d.wd, .int .i64 d.a]
def DcRow (w : World) (S : Nat → Prop) (oa : Option Addr) (ds : List Dc) : Prop := RowC w S 3 oa ds.length (fun j => dcL (ds.getD j dc0))
/-- threads -/
def ThV (w : World) (S : Nat → Prop) (t : Th) (l : List Value) : Prop := ∃ ol cl ob cb, l = [str t.nm, .slice ol t.locals.length cl, .slice ob t.body.length cb, .int .i64 t.a] ∧ DcRow w S ol t.locals ∧ SmRow w S ob t.body
theorem ThV.kept {w w' : World} {S : Nat → Prop} {t : Th} {l : List Value} (h : ThV w S t l) (k : Same S w w') : ThV w' S t l := by
  obtain ⟨ol, cl, ob, cb, h1, h2, h3⟩ := h
  exact ⟨ol, cl, ob, cb, h1, RowC.kept h2 k, h3.kept k⟩
theorem ThV.mono {w : World} {S S' : Nat → Prop} {t : Th} {l : List Value} (h : ThV w S t l) (k : ∀ b, S b → S' b) : ThV w S' t l := by
  obtain ⟨ol, cl, ob, cb, h1, h2, h3⟩ := h
  exact ⟨ol, cl, ob, cb, h1, RowC.mono h2 k, h3.mono k⟩
def ThRow (w : World) (S : Nat → Prop) (oa : Option Addr) (ts : List Th) : Prop := ∃ vs, RowC w S 4 oa ts.length vs ∧ ∀ j x, ts[j]? = some x → ThV w S x (vs j)
theorem ThRow.kept {w w' : World} {S : Nat → Prop} {oa : Option Addr} {es : List Th} (h : ThRow w S oa es) (k : Same S w w') : ThRow w' S oa es := by
  obtain ⟨vs, h1, h2⟩ := h
  exact ⟨vs, h1.kept k, fun j x hx => (h2 j x hx).kept k⟩
theorem ThRow.mono {w : World} {S S' : Nat → Prop} {oa : Option Addr} {es : List Th} (h : ThRow w S oa es) (k : ∀ b, S b → S' b) : ThRow w S' oa es := by
  obtain ⟨vs, h1, h2⟩ := h
  exact ⟨vs, h1.mono k, fun j x hx => (h2 j x hx).mono k⟩
/-- a program's cells -/
def PgV (w : World) (S : Nat → Prop) (p : Pg) (l : List Value) : Prop := ∃ os cs ol cl ot ct, l = [.slice os p.shared.length cs, .slice ol p.locks.length cl, .slice ot p.threads.length ct] ∧ DcRow w S os p.shared ∧ DcRow w S ol p.locks ∧ ThRow w S ot p.threads
end Sx


/- The engine, twentieth part: trees whose numbers are of their kinds; how great they are; arguments that are trees, opened. -/
namespace Sx
open Go Go.RowKit
/-! ## numbers are of their kinds -/
def i64 (x : Int) : Prop := -9223372036854775808 ≤ x ∧ x ≤ 9223372036854775807
def u8 (x : Int) : Prop := 0 ≤ x ∧ x ≤ 255
inductive OkE : Ex → Prop
  | mk {k op wd : Int} {nm : List UInt8} {kids : List Ex} {a : Int} (h1 : u8 k) (h2 : u8 op) (h3 : i64 wd) (h4 : i64 a) (hn : kids.length ≤ 1099511627776) (hk : ∀ (j : Nat) x, kids[j]? = some x → OkE x) : OkE (.mk k op wd nm kids a)
theorem OkE.wd {e : Ex} (h : OkE e) : i64 e.wd := by cases h; assumption
theorem OkE.kid {e x : Ex} {j : Nat} (h : OkE e) (hj : e.kids[j]? = some x) : OkE x := by cases h with | mk h1 h2 h3 h4 hn hk => exact hk j x hj
def OkEs (es : List Ex) : Prop := es.length ≤ 1099511627776 ∧ ∀ (j : Nat) x, es[j]? = some x → OkE x
theorem OkE.kids {e : Ex} (h : OkE e) : OkEs e.kids := ⟨by cases h; assumption, fun j x hx => h.kid hx⟩
inductive OkS : Sm → Prop
  | mk {k : Int} {nm other : List UInt8} {e : List Ex} {body els : List Sm} {a : Int} (h1 : u8 k) (h2 : i64 a) (he : OkEs e) (hnb : body.length ≤ 1099511627776) (hb : ∀ (j : Nat) x, body[j]? = some x → OkS x) (hnl : els.length ≤ 1099511627776) (hl : ∀ (j : Nat) x, els[j]? = some x → OkS x) : OkS (.mk k nm other e body els a)
def OkSs (ss : List Sm) : Prop := ss.length ≤ 1099511627776 ∧ ∀ (j : Nat) x, ss[j]? = some x → OkS x
theorem OkS.k {s : Sm} (h : OkS s) : u8 s.k := by cases h; assumption
theorem OkS.e {s : Sm} (h : OkS s) : OkEs s.e := by cases h; assumption
theorem OkS.body {s : Sm} (h : OkS s) : OkSs s.body := by cases h with | mk h1 h2 he hnb hb hnl hl => exact ⟨hnb, hb⟩
theorem OkS.els {s : Sm} (h : OkS s) : OkSs s.els := by cases h with | mk h1 h2 he hnb hb hnl hl => exact ⟨hnl, hl⟩
def OkD (ds : List Dc) : Prop := ds.length ≤ 1099511627776 ∧ ∀ (j : Nat) x, ds[j]? = some x → i64 x.wd ∧ i64 x.a
def OkT (ts : List Th) : Prop := ts.length ≤ 1099511627776 ∧ ∀ (j : Nat) t, ts[j]? = some t → OkD t.locals ∧ OkSs t.body ∧ i64 t.a
def OkP (p : Pg) : Prop := OkD p.shared ∧ OkD p.locks ∧ OkT p.threads

/-! ## how great a tree is -/
mutual
def szE : Ex → Nat
  | .mk k op wd nm kids a => nm.length + szEs kids + 1
termination_by structural e => e
def szEs : List Ex → Nat
  | [] => 0
  | e :: r => szE e + szEs r
termination_by structural l => l
end
mutual
def szS : Sm → Nat
  | .mk k nm other e body els a => nm.length + other.length + szEs e + szSs body + szSs els + 1
termination_by structural e => e
def szSs : List Sm → Nat
  | [] => 0
  | e :: r => szS e + szSs r
termination_by structural l => l
end
def szDs : List Dc → Nat
  | [] => 0
  | d :: r => d.nm.length + 1 + szDs r
def szTs : List Th → Nat
  | [] => 0
  | t :: r => t.nm.length + szDs t.locals + szSs t.body + 1 + szTs r
def szP (p : Pg) : Nat := szDs p.shared + szDs p.locks + szTs p.threads

structure TyIds where
  k1 : TypeId
  op : TypeId
  wd : TypeId
  str : TypeId
  es : TypeId
  e : TypeId
  int : TypeId
  k2 : TypeId
  ss : TypeId
  s : TypeId
  ds : TypeId
  d : TypeId
  ts : TypeId
  t : TypeId
  pg : TypeId
section
variable {H : Type} {enc : TypeId × Value → H} {P : Program} {w : World}
variable {I : TyIds}
end
end Sx


/- The engine, sixteenth part: arrays that are values; arrays in memory; the neg of a number. -/
namespace Sx
open Go Go.RowKit
section
variable {w0 w w' : World} {M : List Nat} {hs : List Res}
variable {P : Program} {n : Fr} {L : List Oper} {Q : Exit → Act → World → Prop} {kn : Kn} {N : Act → World → Prop}
variable {d ty : Nat} {pos : String} {aft : Array Edge} {g : Option (Nat × Bool)}

theorem y_neg {T : Nat} {x : Operand} {k : IntKind} {p r : Int} (hx : evO kn x = some (.int k p)) (hr : k.wrap (0 - p) = r) : Y P n kn w ⟨some d, .unOp .neg T x, ty, pos, aft, g⟩ (.int k r) := fun a ha => by
  subst hr
  simp only [execOp, ha.ev hx]
  simp [Op.unary, Op.intArith, go_sem]
theorem run_part1 {T off : Nat} {cs : List Value} {v : Value} (ha : ∀ w, (Go.isAgg T).run P w = .ok false w) (hv : nth cs off = some v) : (part T cs.toArray off).run P w = .ok v w := by
  rw [nth_eq] at hv
  unfold part
  simp [ha, hv]
theorem run_partA {T off sz : Nat} {cs vs : List Value} (ha : ∀ w, (Go.isAgg T).run P w = .ok true w) (hs : ∀ w, (Go.sizeOf T).run P w = .ok sz w) (hv : takeN sz (dropN cs off) = some vs) : (part T cs.toArray off).run P w = .ok (.agg vs.toArray) w := by
  obtain ⟨h1, h2⟩ := takeN_spec hv
  rw [dropN_eq] at h1
  unfold part
  simp [ha, hs, h1]
/-- a field of a struct that is a value -/
theorem y_fld {T i off : Nat} {x : Operand} {cs : List Value} {fs : Array Field} {f : Field} {v : Value} (hx : evO kn x = some (.agg cs.toArray)) (ht : P.underlying T = some (.struct fs)) (hf : nth fs.toList i = some f) (ho : f.offset = off)
    (ha : ∀ w, (Go.isAgg f.type).run P w = .ok false w) (hv : nth cs off = some v) : Y P n kn w ⟨some d, .field T x i, ty, pos, aft, g⟩ v := fun a hk => by
  subst ho
  rw [nth_eq] at hf
  have hf' : fs[i]? = some f := by simpa using hf
  simp only [execOp, hk.ev hx]
  simp [Instr.field, run_underlying ht, hf', asAgg, run_part1 ha hv]
/-- a[i:] of an array in memory -/
theorem y_sla {T E i sz len b off : Nat} {x lo : Operand} {ik : IntKind} {ii : Int} (hx : evO kn x = some (.pointer (some ⟨b, off, none⟩))) (hlo : evO kn lo = some (.int ik ii)) (ht : P.underlying T = some (.array len E))
    (hs : ∀ w, (Go.sizeOf E).run P w = .ok sz w) (hi : ii = (i : Int)) (hlt : i < len) : Y P n kn w ⟨some d, .slice T x (some lo) none none, ty, pos, aft, g⟩ (.slice (some ⟨b, off + i * sz, none⟩) (len - i) (len - i)) := fun a hk => by
  subst hi
  have h1 : i ≤ len := by omega
  have h2 : ¬ len = i := by omega
  simp only [execOp, Option.map_some, Option.map_none, hk.ev hx, hk.ev hlo]
  simp [Instr.sliceAt, Instr.sliceBounds, Instr.sliceBound, asIntOf, run_underlying ht, Instr.sureAddr, h1, h2, hs, addr_add]
/-- a store into a block that is known, at a place that is reckoned -/
theorem e_sta (st : St w0 M hs w) (i : Nat) {x y : Operand} {T b off E : Nat} {l l' : List Value} {v : Value} (hw : gd L kn g = some true) (hx : evO kn x = some (.pointer (some ⟨b, off, none⟩)))
    (hy : evO kn y = some v) (h1 : v.oneCell' = true) (hsz : ∀ w, (Go.sizeOf T).run P w = .ok 1 w)
    (hi : nth hs i = some (.blk b (.cells l.toArray E (0, 0)))) (hlt : off < l.length) (hl : l.set off v = l') (hm : b ∈ M ∨ w0.heap.size ≤ b)
    (next : ∀ w', St w0 M (setNth hs i (.blk b (.cells l'.toArray E (0, 0)))) w' → vN n N kn w') : vS P n L Q (⟨none, .store T x y, ty, pos, aft, g⟩) N kn w := by
  refine e_st st i hw hx hy h1 hsz hi (by simpa [Nat.blt_eq] using hlt) hm (fun w' st' => next w' ?_)
  rw [setNth_eq l off v, hl] at st'
  exact st'
end
end Sx


/- Short names for the engine's most frequent steps: what is 'rfl' at every use is filled in. -/
namespace Sx
open Go Go.RowKit

theorem St.dr {w0 : World} {M : List Nat} {hs hs' : List Res} {w : World} (st : St w0 M hs w) (h : hs'.Sublist hs := by repeat (first | exact sl0 | apply sl1 | apply sl2)) : St w0 M hs' w := st.drop h

section
variable {P : Program} {n : Fr} {L : List Oper} {Q : Exit → Act → World → Prop} {kn : Kn} {w w0 : World} {M : List Nat} {hs : List Res} {rest : List Oper}
variable {d ty : Nat} {pos : String} {aft : Array Edge} {g : Option (Nat × Bool)} {N : Act → World → Prop}

theorem ym {x : Operand} {v : Value} (next : vcL P n L Q rest (put (some d) v kn) w) (hw : gd L kn g = some true := by exact rfl) (hd : okDst n (some d) = true := by exact rfl) (hx : evO kn x = some v := by exact rfl) : vcL P n L Q (⟨some d, .move x, ty, pos, aft, g⟩ :: rest) kn w := vc_y hw hd (y_mv hx) next
theorem ya {x : Operand} {v : Value} (next : vcL P n L Q rest (put (some d) v kn) w) (hw : gd L kn g = some true := by exact rfl) (hd : okDst n (some d) = true := by exact rfl) (hx : evO kn x = some v := by exact rfl) : vcL P n L Q (⟨some d, .assign x, ty, pos, aft, g⟩ :: rest) kn w := vc_y hw hd (y_as hx) next
theorem ypt {c x y : Operand} {v : Value} (next : vcL P n L Q rest (put (some d) v kn) w) (hw : gd L kn g = some true := by exact rfl) (hd : okDst n (some d) = true := by exact rfl) (hc : evO kn c = some (.bool true) := by exact rfl) (hx : evO kn x = some v := by exact rfl) : vcL P n L Q (⟨some d, .pick c x y, ty, pos, aft, g⟩ :: rest) kn w := vc_y hw hd (y_pickt hc hx) next
theorem ypf {c x y : Operand} {v : Value} (next : vcL P n L Q rest (put (some d) v kn) w) (hw : gd L kn g = some true := by exact rfl) (hd : okDst n (some d) = true := by exact rfl) (hc : evO kn c = some (.bool false) := by exact rfl) (hx : evO kn y = some v := by exact rfl) : vcL P n L Q (⟨some d, .pick c x y, ty, pos, aft, g⟩ :: rest) kn w := vc_y hw hd (y_pickf hc hx) next
theorem ynk {x : Operand} {p : Addr} (next : vcL P n L Q rest (put (some d) (.pointer (some p)) kn) w) (hw : gd L kn g = some true := by exact rfl) (hd : okDst n (some d) = true := by exact rfl) (hx : evO kn x = some (.pointer (some p)) := by exact rfl) : vcL P n L Q (⟨some d, .nilCheck x, ty, pos, aft, g⟩ :: rest) kn w := vc_y hw hd (y_nck hx) next
theorem yfz (k : Nat) {x : Operand} {T i b s : Nat} {fs : Array Field} {f : Field} {F : Nat} (ht : P.underlying T = some (.struct fs)) (hs : ∀ w, (Go.sizeOf F).run P w = .ok s w)
    (next : vcL P n L Q rest (put (some d) (.pointer (some ⟨b, k, none⟩)) kn) w) (hw : gd L kn g = some true := by exact rfl) (hd : okDst n (some d) = true := by exact rfl) (hx : evO kn x = some (.pointer (some ⟨b, 0, none⟩)) := by exact rfl)
    (hf : nth fs.toList i = some f := by exact rfl) (hF : f.type = F := by exact rfl) (hk : f.offset = k := by exact rfl) (h0 : Nat.blt 0 s = true := by exact rfl) : vcL P n L Q (⟨some d, .fieldAddr T x i, ty, pos, aft, g⟩ :: rest) kn w := vc_y hw hd (y_faz hx ht hf hk (fun w => by rw [hF]; exact hs w) h0) next
theorem yl (st : St w0 M hs w) (i : Nat) {x : Operand} {T b off E : Nat} {l : List Value} {fz : Nat × Nat} {v : Value} (ha : ∀ w, (Go.isAgg T).run P w = .ok false w) (next : vcL P n L Q rest (put (some d) v kn) w)
    (hw : gd L kn g = some true := by exact rfl) (hd : okDst n (some d) = true := by exact rfl) (hx : evO kn x = some (.pointer (some ⟨b, off, none⟩)) := by exact rfl) (hi : nth hs i = some (.blk b (.cells l.toArray E fz)) := by exact rfl) (hv : nth l off = some v := by exact rfl) :
    vcL P n L Q (⟨some d, .load T x, ty, pos, aft, g⟩ :: rest) kn w := vc_y hw hd (y_ld st i hx ha hi hv) next
theorem yla (st : St w0 M hs w) (i : Nat) (vs : List Value) {x : Operand} {T b off E sz : Nat} {l : List Value} {fz : Nat × Nat} (ha : ∀ w, (Go.isAgg T).run P w = .ok true w) (hsz : ∀ w, (Go.sizeOf T).run P w = .ok sz w) (next : vcL P n L Q rest (put (some d) (.agg vs.toArray) kn) w)
    (hw : gd L kn g = some true := by exact rfl) (hd : okDst n (some d) = true := by exact rfl) (hx : evO kn x = some (.pointer (some ⟨b, off, none⟩)) := by exact rfl) (hi : nth hs i = some (.blk b (.cells l.toArray E fz)) := by exact rfl) (hv : takeN sz (dropN l off) = some vs := by exact rfl) :
    vcL P n L Q (⟨some d, .load T x, ty, pos, aft, g⟩ :: rest) kn w := vc_y hw hd (y_lda st i hx ha hsz hi hv) next
theorem vy {o : Oper} {v : Value} (y : Y P n kn w o v) (next : vcL P n L Q rest (put o.dst v kn) w) (hw : gd L kn o.guard = some true := by exact rfl) (hd : okDst n o.dst = true := by exact rfl) : vcL P n L Q (o :: rest) kn w := vc_y hw hd y next
theorem vsk {o : Oper} (next : vcL P n L Q rest (put o.dst undef kn) w) (hw : gd L kn o.guard = some false := by exact rfl) (hd : okDst n o.dst = true := by exact rfl) : vcL P n L Q (o :: rest) kn w := vc_e (e_skip hw hd next)
theorem vmb {x : Operand} {b : Bool} (h1 : b = true → vcL P n L Q rest ((d, .bool true) :: kn) w) (h2 : b = false → vcL P n L Q rest ((d, .bool false) :: kn) w) (hw : gd L kn g = some true := by exact rfl) (hd : okDst n (some d) = true := by exact rfl) (hx : evO kn x = some (.bool b) := by exact rfl) :
    vcL P n L Q (⟨some d, .move x, ty, pos, aft, g⟩ :: rest) kn w := vc_e (e_mvb hw hd hx h1 h2)
variable {S : World → Prop} {r : List (Nat × Bool)} {rd : Pl}
theorem pm (hS : S w) {i : Nat} {x : Operand} {v : Value} (next : vP P n L Q S r (put (some d) v kn) w) (hi : nth L i = some ⟨some d, .move x, ty, pos, aft, g⟩ := by exact rfl) (hw : gd L kn g = some true := by exact rfl) (hd : okDst n (some d) = true := by exact rfl)
    (hx : evO kn x = some v := by exact rfl) : vP P n L Q S ((i, true) :: r) kn w := vp_take hi hw hd hS (fun _ _ => y_mv hx) next
theorem pnk (hS : S w) {i : Nat} {x : Operand} {p : Addr} (next : vP P n L Q S r (put (some d) (.pointer (some p)) kn) w) (hi : nth L i = some ⟨some d, .nilCheck x, ty, pos, aft, g⟩ := by exact rfl) (hw : gd L kn g = some true := by exact rfl) (hd : okDst n (some d) = true := by exact rfl)
    (hx : evO kn x = some (.pointer (some p)) := by exact rfl) : vP P n L Q S ((i, true) :: r) kn w := vp_take hi hw hd hS (fun _ _ => y_nck hx) next
theorem pld (hS : S w) (j : Nat) {i : Nat} {x : Operand} {T b off E : Nat} {l : List Value} {fz : Nat × Nat} {v : Value} (ha : ∀ w, (Go.isAgg T).run P w = .ok false w) (next : vP P n L Q S r (put (some d) v kn) w)
    (hst : ∀ w', S w' → St w0 M hs w' := by exact fun _ h => h) (hi : nth L i = some ⟨some d, .load T x, ty, pos, aft, g⟩ := by exact rfl) (hw : gd L kn g = some true := by exact rfl) (hd : okDst n (some d) = true := by exact rfl)
    (hx : evO kn x = some (.pointer (some ⟨b, off, none⟩)) := by exact rfl) (hb : nth hs j = some (.blk b (.cells l.toArray E fz)) := by exact rfl) (hv : nth l off = some v := by exact rfl) : vP P n L Q S ((i, true) :: r) kn w := vp_take hi hw hd hS (fun w st => y_ld (hst w st) j hx ha hb hv) next
theorem pfz (hS : S w) (k : Nat) {i : Nat} {x : Operand} {T q b s : Nat} {fs : Array Field} {f : Field} {F : Nat} (ht : P.underlying T = some (.struct fs)) (hs : ∀ w, (Go.sizeOf F).run P w = .ok s w) (next : vP P n L Q S r (put (some d) (.pointer (some ⟨b, k, none⟩)) kn) w)
    (hi : nth L i = some ⟨some d, .fieldAddr T x q, ty, pos, aft, g⟩ := by exact rfl) (hw : gd L kn g = some true := by exact rfl) (hd : okDst n (some d) = true := by exact rfl) (hx : evO kn x = some (.pointer (some ⟨b, 0, none⟩)) := by exact rfl)
    (hf : nth fs.toList q = some f := by exact rfl) (hF : f.type = F := by exact rfl) (hk : f.offset = k := by exact rfl) (h0 : Nat.blt 0 s = true := by exact rfl) : vP P n L Q S ((i, true) :: r) kn w := vp_take hi hw hd hS (fun _ _ => y_faz hx ht hf hk (fun w => by rw [hF]; exact hs w) h0) next
theorem pf0 (hS : S w) {i : Nat} {x : Operand} {T q b off s : Nat} {fs : Array Field} {f : Field} {F : Nat} (ht : P.underlying T = some (.struct fs)) (hs : ∀ w, (Go.sizeOf F).run P w = .ok s w) (next : vP P n L Q S r (put (some d) (.pointer (some ⟨b, off, none⟩)) kn) w)
    (hi : nth L i = some ⟨some d, .fieldAddr T x q, ty, pos, aft, g⟩ := by exact rfl) (hw : gd L kn g = some true := by exact rfl) (hd : okDst n (some d) = true := by exact rfl) (hx : evO kn x = some (.pointer (some ⟨b, off, none⟩)) := by exact rfl)
    (hf : nth fs.toList q = some f := by exact rfl) (hF : f.type = F := by exact rfl) (hk : f.offset = 0 := by exact rfl) (h0 : Nat.blt 0 s = true := by exact rfl) : vP P n L Q S ((i, true) :: r) kn w := vp_take hi hw hd hS (fun _ _ => y_fa0 hx ht hf hk (fun w => by rw [hF]; exact hs w) h0) next
theorem dm (hS : S w) {i : Nat} {x : Operand} {v : Value} (next : vD P n L Q S rd (put (some d) v kn) w) (hi : nth L i = some ⟨some d, .move x, ty, pos, aft, g⟩ := by exact rfl) (hw : gd L kn g = some true := by exact rfl) (hd : okDst n (some d) = true := by exact rfl)
    (hx : evO kn x = some v := by exact rfl) : vD P n L Q S (.take i rd) kn w := vd_take hi hw hd hS (fun _ _ => y_mv hx) next
theorem dnk (hS : S w) {i : Nat} {x : Operand} {p : Addr} (next : vD P n L Q S rd (put (some d) (.pointer (some p)) kn) w) (hi : nth L i = some ⟨some d, .nilCheck x, ty, pos, aft, g⟩ := by exact rfl) (hw : gd L kn g = some true := by exact rfl) (hd : okDst n (some d) = true := by exact rfl)
    (hx : evO kn x = some (.pointer (some p)) := by exact rfl) : vD P n L Q S (.take i rd) kn w := vd_take hi hw hd hS (fun _ _ => y_nck hx) next
theorem dld (hS : S w) (j : Nat) {i : Nat} {x : Operand} {T b off E : Nat} {l : List Value} {fz : Nat × Nat} {v : Value} (ha : ∀ w, (Go.isAgg T).run P w = .ok false w) (next : vD P n L Q S rd (put (some d) v kn) w)
    (hst : ∀ w', S w' → St w0 M hs w' := by exact fun _ h => h) (hi : nth L i = some ⟨some d, .load T x, ty, pos, aft, g⟩ := by exact rfl) (hw : gd L kn g = some true := by exact rfl) (hd : okDst n (some d) = true := by exact rfl)
    (hx : evO kn x = some (.pointer (some ⟨b, off, none⟩)) := by exact rfl) (hb : nth hs j = some (.blk b (.cells l.toArray E fz)) := by exact rfl) (hv : nth l off = some v := by exact rfl) : vD P n L Q S (.take i rd) kn w := vd_take hi hw hd hS (fun w st => y_ld (hst w st) j hx ha hb hv) next
theorem dfz (hS : S w) (k : Nat) {i : Nat} {x : Operand} {T q b s : Nat} {fs : Array Field} {f : Field} {F : Nat} (ht : P.underlying T = some (.struct fs)) (hs : ∀ w, (Go.sizeOf F).run P w = .ok s w) (next : vD P n L Q S rd (put (some d) (.pointer (some ⟨b, k, none⟩)) kn) w)
    (hi : nth L i = some ⟨some d, .fieldAddr T x q, ty, pos, aft, g⟩ := by exact rfl) (hw : gd L kn g = some true := by exact rfl) (hd : okDst n (some d) = true := by exact rfl) (hx : evO kn x = some (.pointer (some ⟨b, 0, none⟩)) := by exact rfl)
    (hf : nth fs.toList q = some f := by exact rfl) (hF : f.type = F := by exact rfl) (hk : f.offset = k := by exact rfl) (h0 : Nat.blt 0 s = true := by exact rfl) : vD P n L Q S (.take i rd) kn w := vd_take hi hw hd hS (fun _ _ => y_faz hx ht hf hk (fun w => by rw [hF]; exact hs w) h0) next
theorem df0 (hS : S w) {i : Nat} {x : Operand} {T q b off s : Nat} {fs : Array Field} {f : Field} {F : Nat} (ht : P.underlying T = some (.struct fs)) (hs : ∀ w, (Go.sizeOf F).run P w = .ok s w) (next : vD P n L Q S rd (put (some d) (.pointer (some ⟨b, off, none⟩)) kn) w)
    (hi : nth L i = some ⟨some d, .fieldAddr T x q, ty, pos, aft, g⟩ := by exact rfl) (hw : gd L kn g = some true := by exact rfl) (hd : okDst n (some d) = true := by exact rfl) (hx : evO kn x = some (.pointer (some ⟨b, off, none⟩)) := by exact rfl)
    (hf : nth fs.toList q = some f := by exact rfl) (hF : f.type = F := by exact rfl) (hk : f.offset = 0 := by exact rfl) (h0 : Nat.blt 0 s = true := by exact rfl) : vD P n L Q S (.take i rd) kn w := vd_take hi hw hd hS (fun _ _ => y_fa0 hx ht hf hk (fun w => by rw [hF]; exact hs w) h0) next
theorem vk1 {c : Code} (a0 : Nat) {v0 : Value} (h : vcC P n c Q [(a0, v0)] w) (h0 : find kn a0 = some v0 := by exact rfl) : vcC P n c Q kn w := vc_keep [(a0, v0)] ⟨h0, trivial⟩ h
theorem vk2 {c : Code} (a0 a1 : Nat) {v0 v1 : Value} (h : vcC P n c Q [(a0, v0), (a1, v1)] w) (h0 : find kn a0 = some v0 := by exact rfl) (h1 : find kn a1 = some v1 := by exact rfl) : vcC P n c Q kn w := vc_keep [(a0, v0), (a1, v1)] ⟨h0, h1, trivial⟩ h
theorem vk3 {c : Code} (a0 a1 a2 : Nat) {v0 v1 v2 : Value} (h : vcC P n c Q [(a0, v0), (a1, v1), (a2, v2)] w) (h0 : find kn a0 = some v0 := by exact rfl) (h1 : find kn a1 = some v1 := by exact rfl) (h2 : find kn a2 = some v2 := by exact rfl) : vcC P n c Q kn w := vc_keep [(a0, v0), (a1, v1), (a2, v2)] ⟨h0, h1, h2, trivial⟩ h
theorem vk4 {c : Code} (a0 a1 a2 a3 : Nat) {v0 v1 v2 v3 : Value} (h : vcC P n c Q [(a0, v0), (a1, v1), (a2, v2), (a3, v3)] w) (h0 : find kn a0 = some v0 := by exact rfl) (h1 : find kn a1 = some v1 := by exact rfl) (h2 : find kn a2 = some v2 := by exact rfl) (h3 : find kn a3 = some v3 := by exact rfl) : vcC P n c Q kn w := vc_keep [(a0, v0), (a1, v1), (a2, v2), (a3, v3)] ⟨h0, h1, h2, h3, trivial⟩ h
theorem vk5 {c : Code} (a0 a1 a2 a3 a4 : Nat) {v0 v1 v2 v3 v4 : Value} (h : vcC P n c Q [(a0, v0), (a1, v1), (a2, v2), (a3, v3), (a4, v4)] w) (h0 : find kn a0 = some v0 := by exact rfl) (h1 : find kn a1 = some v1 := by exact rfl) (h2 : find kn a2 = some v2 := by exact rfl) (h3 : find kn a3 = some v3 := by exact rfl) (h4 : find kn a4 = some v4 := by exact rfl) : vcC P n c Q kn w := vc_keep [(a0, v0), (a1, v1), (a2, v2), (a3, v3), (a4, v4)] ⟨h0, h1, h2, h3, h4, trivial⟩ h
theorem vk6 {c : Code} (a0 a1 a2 a3 a4 a5 : Nat) {v0 v1 v2 v3 v4 v5 : Value} (h : vcC P n c Q [(a0, v0), (a1, v1), (a2, v2), (a3, v3), (a4, v4), (a5, v5)] w) (h0 : find kn a0 = some v0 := by exact rfl) (h1 : find kn a1 = some v1 := by exact rfl) (h2 : find kn a2 = some v2 := by exact rfl) (h3 : find kn a3 = some v3 := by exact rfl) (h4 : find kn a4 = some v4 := by exact rfl) (h5 : find kn a5 = some v5 := by exact rfl) : vcC P n c Q kn w := vc_keep [(a0, v0), (a1, v1), (a2, v2), (a3, v3), (a4, v4), (a5, v5)] ⟨h0, h1, h2, h3, h4, h5, trivial⟩ h
theorem vk7 {c : Code} (a0 a1 a2 a3 a4 a5 a6 : Nat) {v0 v1 v2 v3 v4 v5 v6 : Value} (h : vcC P n c Q [(a0, v0), (a1, v1), (a2, v2), (a3, v3), (a4, v4), (a5, v5), (a6, v6)] w) (h0 : find kn a0 = some v0 := by exact rfl) (h1 : find kn a1 = some v1 := by exact rfl) (h2 : find kn a2 = some v2 := by exact rfl) (h3 : find kn a3 = some v3 := by exact rfl) (h4 : find kn a4 = some v4 := by exact rfl) (h5 : find kn a5 = some v5 := by exact rfl) (h6 : find kn a6 = some v6 := by exact rfl) : vcC P n c Q kn w := vc_keep [(a0, v0), (a1, v1), (a2, v2), (a3, v3), (a4, v4), (a5, v5), (a6, v6)] ⟨h0, h1, h2, h3, h4, h5, h6, trivial⟩ h
theorem vk8 {c : Code} (a0 a1 a2 a3 a4 a5 a6 a7 : Nat) {v0 v1 v2 v3 v4 v5 v6 v7 : Value} (h : vcC P n c Q [(a0, v0), (a1, v1), (a2, v2), (a3, v3), (a4, v4), (a5, v5), (a6, v6), (a7, v7)] w) (h0 : find kn a0 = some v0 := by exact rfl) (h1 : find kn a1 = some v1 := by exact rfl) (h2 : find kn a2 = some v2 := by exact rfl) (h3 : find kn a3 = some v3 := by exact rfl) (h4 : find kn a4 = some v4 := by exact rfl) (h5 : find kn a5 = some v5 := by exact rfl) (h6 : find kn a6 = some v6 := by exact rfl) (h7 : find kn a7 = some v7 := by exact rfl) : vcC P n c Q kn w := vc_keep [(a0, v0), (a1, v1), (a2, v2), (a3, v3), (a4, v4), (a5, v5), (a6, v6), (a7, v7)] ⟨h0, h1, h2, h3, h4, h5, h6, h7, trivial⟩ h
theorem vk9 {c : Code} (a0 a1 a2 a3 a4 a5 a6 a7 a8 : Nat) {v0 v1 v2 v3 v4 v5 v6 v7 v8 : Value} (h : vcC P n c Q [(a0, v0), (a1, v1), (a2, v2), (a3, v3), (a4, v4), (a5, v5), (a6, v6), (a7, v7), (a8, v8)] w) (h0 : find kn a0 = some v0 := by exact rfl) (h1 : find kn a1 = some v1 := by exact rfl) (h2 : find kn a2 = some v2 := by exact rfl) (h3 : find kn a3 = some v3 := by exact rfl) (h4 : find kn a4 = some v4 := by exact rfl) (h5 : find kn a5 = some v5 := by exact rfl) (h6 : find kn a6 = some v6 := by exact rfl) (h7 : find kn a7 = some v7 := by exact rfl) (h8 : find kn a8 = some v8 := by exact rfl) : vcC P n c Q kn w := vc_keep [(a0, v0), (a1, v1), (a2, v2), (a3, v3), (a4, v4), (a5, v5), (a6, v6), (a7, v7), (a8, v8)] ⟨h0, h1, h2, h3, h4, h5, h6, h7, h8, trivial⟩ h
theorem vk10 {c : Code} (a0 a1 a2 a3 a4 a5 a6 a7 a8 a9 : Nat) {v0 v1 v2 v3 v4 v5 v6 v7 v8 v9 : Value} (h : vcC P n c Q [(a0, v0), (a1, v1), (a2, v2), (a3, v3), (a4, v4), (a5, v5), (a6, v6), (a7, v7), (a8, v8), (a9, v9)] w) (h0 : find kn a0 = some v0 := by exact rfl) (h1 : find kn a1 = some v1 := by exact rfl) (h2 : find kn a2 = some v2 := by exact rfl) (h3 : find kn a3 = some v3 := by exact rfl) (h4 : find kn a4 = some v4 := by exact rfl) (h5 : find kn a5 = some v5 := by exact rfl) (h6 : find kn a6 = some v6 := by exact rfl) (h7 : find kn a7 = some v7 := by exact rfl) (h8 : find kn a8 = some v8 := by exact rfl) (h9 : find kn a9 = some v9 := by exact rfl) : vcC P n c Q kn w := vc_keep [(a0, v0), (a1, v1), (a2, v2), (a3, v3), (a4, v4), (a5, v5), (a6, v6), (a7, v7), (a8, v8), (a9, v9)] ⟨h0, h1, h2, h3, h4, h5, h6, h7, h8, h9, trivial⟩ h
end
end Sx


/- What the lexer computes, in plain words: no program in sight. -/
namespace LexS

def isLetter (c : UInt8) : Bool := decide (97 ≤ c.toNat ∧ c.toNat ≤ 122 ∨ 65 ≤ c.toNat ∧ c.toNat ≤ 90 ∨ c.toNat = 95)
def isDigit (c : UInt8) : Bool := decide (48 ≤ c.toNat ∧ c.toNat ≤ 57)
def isBlank (c : UInt8) : Bool := decide (c.toNat = 32 ∨ c.toNat = 9 ∨ c.toNat = 10 ∨ c.toNat = 13)
def isIdent (c : UInt8) : Bool := isLetter c || isDigit c
def wShared : List UInt8 := [115, 104, 97, 114, 101, 100]
def wLock : List UInt8 := [108, 111, 99, 107]
def wThread : List UInt8 := [116, 104, 114, 101, 97, 100]
def wLocal : List UInt8 := [108, 111, 99, 97, 108]
def wIf : List UInt8 := [105, 102]
def wElse : List UInt8 := [101, 108, 115, 101]
def wWhile : List UInt8 := [119, 104, 105, 108, 101]
def wPrint : List UInt8 := [112, 114, 105, 110, 116]
def wSkip : List UInt8 := [115, 107, 105, 112]
def wSwap : List UInt8 := [115, 119, 97, 112]
def isWord (l : List UInt8) : Bool := decide (l = wShared ∨ l = wLock ∨ l = wThread ∨ l = wLocal ∨ l = wIf ∨ l = wElse ∨ l = wWhile ∨ l = wPrint ∨ l = wSkip ∨ l = wSwap)
/-- the signs of two bytes -/
def isSign2 (l : List UInt8) : Bool := decide (l = [61, 61] ∨ l = [33, 61] ∨ l = [60, 61] ∨ l = [62, 61] ∨ l = [60, 60] ∨ l = [62, 62])
def signs1 : List UInt8 := [40, 41, 123, 125, 44, 59, 61, 43, 45, 42, 47, 37, 38, 124, 94, 33, 60, 62]
/-- the signs of one byte -/
def isSign1 (l : List UInt8) : Bool := match l with | [c] => signs1.contains c | _ => false
def isSign (l : List UInt8) : Bool := isSign2 l || isSign1 l
def isName (l : List UInt8) : Bool := match l with
  | [] => false
  | c :: _ => decide (l.length ≤ 32) && !isDigit c && !isWord l && l.all isIdent

/-- how many bytes stand ahead of the first LF (or the end) -/
def toLf : List UInt8 → Nat
  | [] => 0
  | c :: r => if c = 10 then 0 else toLf r + 1

def isRem (l : List UInt8) : Bool := match l with | a :: b :: _ => decide (a = 47 ∧ b = 47) | _ => false

/-- how many bytes of blanks and remarks stand ahead -/
def skipF : Nat → List UInt8 → Nat
  | 0, _ => 0
  | _ + 1, [] => 0
  | k + 1, c :: r => if isBlank c then skipF k r + 1 else if isRem (c :: r) then toLf (c :: r) + skipF k ((c :: r).drop (toLf (c :: r))) else 0
def skip (l : List UInt8) : Nat := skipF (l.length + 1) l

theorem toLf_le (l : List UInt8) : toLf l ≤ l.length := by
  induction l with
  | nil => simp [toLf]
  | cons c r ih => simp only [toLf]; split <;> simp <;> omega

theorem toLf_pos {l : List UInt8} (h : isRem l = true) : 0 < toLf l := by
  match l with
  | [] => simp [isRem] at h
  | [_] => simp [isRem] at h
  | a :: b :: r =>
    simp [isRem] at h
    obtain ⟨rfl, rfl⟩ := h
    simp [toLf]

theorem skipF_fuel : ∀ (k j : Nat) (l : List UInt8), l.length < k → l.length < j → skipF k l = skipF j l
  | 0, j, l, h, _ => by omega
  | k + 1, 0, l, _, h => by omega
  | k + 1, j + 1, [], _, _ => rfl
  | k + 1, j + 1, c :: r, h1, h2 => by
    simp only [List.length_cons] at h1 h2
    simp only [skipF]
    split
    · rw [skipF_fuel k j r (by omega) (by omega)]
    · split
      · rename_i hr
        have hp := toLf_pos hr
        have hl : ((c :: r).drop (toLf (c :: r))).length < r.length + 1 := by simp only [List.length_drop, List.length_cons]; omega
        rw [skipF_fuel k j _ (by omega) (by omega)]
      · rfl

theorem skip_nil : skip [] = 0 := rfl
theorem skip_blank {c : UInt8} {r : List UInt8} (h : isBlank c = true) : skip (c :: r) = skip r + 1 := by
  unfold skip
  simp only [List.length_cons, skipF, h, if_true]
theorem skip_rem {l : List UInt8} (h : isRem l = true) : skip l = toLf l + skip (l.drop (toLf l)) := by
  match l, h with
  | [], h => simp [isRem] at h
  | c :: r, h =>
    have hb : isBlank c = false := by
      match r, h with
      | [], h => simp [isRem] at h
      | b :: r, h =>
        simp [isRem] at h
        obtain ⟨rfl, rfl⟩ := h
        decide
    have hp := toLf_pos h
    unfold skip
    simp only [List.length_cons, skipF, hb, h, if_true]
    simp only [Bool.false_eq_true, if_false]
    rw [skipF_fuel (r.length + 1) (((c :: r).drop (toLf (c :: r))).length + 1)]
    · simp only [List.length_drop, List.length_cons]; omega
    · omega
theorem skip_other {c : UInt8} {r : List UInt8} (h : isBlank c = false) (hr : isRem (c :: r) = false) : skip (c :: r) = 0 := by
  unfold skip
  simp only [List.length_cons, skipF, h, hr, Bool.false_eq_true, if_false]

theorem skip_le (l : List UInt8) : skip l ≤ l.length := by
  have key : ∀ n (l : List UInt8), l.length = n → skip l ≤ l.length := by
    intro n
    induction n using Nat.strongRecOn with
    | _ n ih =>
      intro l hl
      match l with
      | [] => simp [skip_nil]
      | c :: r =>
        cases hb : isBlank c with
        | true =>
          rw [skip_blank hb]
          have := ih r.length (by simp at hl; omega) r rfl
          simp; omega
        | false =>
          cases hr : isRem (c :: r) with
          | true =>
            rw [skip_rem hr]
            have hp := toLf_pos hr
            have hle := toLf_le (c :: r)
            have := ih ((c :: r).drop (toLf (c :: r))).length (by simp only [List.length_drop, List.length_cons] at *; omega) _ rfl
            simp only [List.length_drop] at this
            omega
          | false => rw [skip_other hb hr]; simp
  exact key _ l rfl

theorem indexByte_lf (l : List UInt8) : Go.Lib.indexByte l 10 = -1 ∧ toLf l = l.length ∨ Go.Lib.indexByte l 10 = (toLf l : Int) ∧ 0 ≤ Go.Lib.indexByte l 10 := by
  induction l with
  | nil => left; simp [Go.Lib.indexByte, toLf]
  | cons c r ih =>
    simp only [Go.Lib.indexByte, toLf]
    by_cases hc : c = 10
    · subst hc; right; simp
    · have hc' : (c == 10) = false := by simpa using hc
      simp only [hc', hc, if_false, Bool.false_eq_true]
      rcases ih with ⟨h1, h2⟩ | ⟨h1, h2⟩
      · left; simp [h1, h2]
      · right
        have : ¬ (Go.Lib.indexByte r 10 == -1) = true := by simp; omega
        rw [if_neg this, h1]
        constructor
        · omega
        · omega

theorem contains_ib (l : List UInt8) (c : UInt8) : decide (0 ≤ Go.Lib.indexByte l c) = l.contains c := by
  have h : (0 ≤ Go.Lib.indexByte l c) ↔ c ∈ l := by
    induction l with
    | nil => simp [Go.Lib.indexByte]
    | cons b r ih =>
      have hge := Go.Lib.indexByte_ge r c
      simp only [Go.Lib.indexByte]
      by_cases hb : b = c
      · subst hb; simp
      · have hb' : (b == c) = false := by simpa using hb
        simp only [hb', Bool.false_eq_true, if_false, List.mem_cons, Ne.symm hb, false_or, ← ih]
        split
        · rename_i h; simp at h; omega
        · rename_i h; simp at h; omega
  rw [Bool.eq_iff_iff]; simp [h]

/-! ### tokens -/
structure Tok where
  kind : Nat
  text : List UInt8
  word : Nat
  at_ : Nat
  deriving DecidableEq, Repr

def numVal (l : List UInt8) : Nat := l.foldl (fun n c => 10 * n + (c.toNat - 48)) 0

theorem numVal_snoc (l : List UInt8) (c : UInt8) : numVal (l ++ [c]) = 10 * numVal l + (c.toNat - 48) := by simp [numVal]

inductive TokR where
  | tok (t : Tok)
  | bad (rule at_ : Nat)
  deriving DecidableEq, Repr

/-- the token that begins a text that is not empty; 'i': where -/
def tokAt (r : List UInt8) (i : Nat) : TokR := match r with
  | [] => .bad 1 i
  | c :: _ =>
    if isLetter c then
      let t := r.takeWhile isIdent
      if isWord t then .tok ⟨2, t, 0, i⟩ else if 32 < t.length then .bad 2 (i + 32) else .tok ⟨1, t, 0, i⟩
    else if isDigit c then
      let t := r.takeWhile isDigit
      if (1 < t.length ∧ c = 48) ∨ 9223372036854775807 < numVal t then .bad 3 i
      else match r.drop t.length with
        | d :: _ => if isLetter d then .bad 4 (i + t.length) else .tok ⟨3, t, numVal t, i⟩
        | [] => .tok ⟨3, t, numVal t, i⟩
    else if isSign2 (r.take 2) then .tok ⟨4, r.take 2, 0, i⟩
    else if isSign1 [c] then .tok ⟨4, [c], 0, i⟩
    else .bad 1 i

/-- the tokens ahead of the first fault; the fault -/
def scanF : Nat → List UInt8 → Nat → List Tok × Option (Nat × Nat)
  | 0, _, _ => ([], none)
  | k + 1, r, i =>
    match r.drop (skip r) with
    | [] => ([], none)
    | c :: r' => match tokAt (c :: r') (i + skip r) with
      | .bad rule p => ([], some (rule, p))
      | .tok t => ((t :: (scanF k ((c :: r').drop t.text.length) (i + skip r + t.text.length)).1), (scanF k ((c :: r').drop t.text.length) (i + skip r + t.text.length)).2)
def front (s : List UInt8) : List Tok × Option (Nat × Nat) := scanF (s.length + 1) s 0

theorem tok_len {r : List UInt8} {i : Nat} {t : Tok} (h : tokAt r i = .tok t) : 1 ≤ t.text.length ∧ t.text = r.take t.text.length ∧ t.at_ = i := by
  match r, h with
  | [], h => simp [tokAt] at h
  | c :: r, h =>
    have htw : ∀ p : UInt8 → Bool, (c :: r).takeWhile p = (c :: r).take ((c :: r).takeWhile p).length := fun p => by
      have h := List.takeWhile_append_dropWhile (p := p) (l := c :: r)
      have h2 : (c :: r).take ((c :: r).takeWhile p).length = ((c :: r).takeWhile p ++ (c :: r).dropWhile p).take ((c :: r).takeWhile p).length := by rw [h]
      rw [h2, List.take_left']
      rfl
    have hpos : ∀ p : UInt8 → Bool, p c = true → 1 ≤ ((c :: r).takeWhile p).length := fun p hp => by rw [List.takeWhile_cons, if_pos hp]; simp
    have h2 : ∀ l : List UInt8, isSign2 l = true → l.length = 2 := fun l hl => by
      simp only [isSign2, decide_eq_true_eq] at hl
      rcases hl with h | h | h | h | h | h <;> simp [h]
    simp only [tokAt] at h
    split at h
    · rename_i hc
      have hi : isIdent c = true := by simp [isIdent, hc]
      split at h
      · cases h; exact ⟨hpos _ hi, htw _, rfl⟩
      · split at h
        · cases h
        · cases h; exact ⟨hpos _ hi, htw _, rfl⟩
    · split at h
      · rename_i hd
        split at h
        · cases h
        · split at h
          · split at h
            · cases h
            · cases h; exact ⟨hpos _ hd, htw _, rfl⟩
          · cases h; exact ⟨hpos _ hd, htw _, rfl⟩
      · split at h
        · rename_i hs
          cases h
          have hl := h2 _ hs
          exact ⟨by dsimp only; omega, by dsimp only; rw [hl], rfl⟩
        · split at h
          · cases h; exact ⟨by simp, by simp, rfl⟩
          · cases h

theorem scanF_fuel : ∀ (k j : Nat) (r : List UInt8) (i : Nat), r.length < k → r.length < j → scanF k r i = scanF j r i
  | 0, _, _, _, h, _ => by omega
  | _ + 1, 0, _, _, _, h => by omega
  | k + 1, j + 1, r, i, h1, h2 => by
    simp only [scanF]
    cases hd : r.drop (skip r) with
    | nil => rfl
    | cons c r' =>
      have hl : (c :: r').length ≤ r.length := by rw [← hd]; simp
      cases ht : tokAt (c :: r') (i + skip r) with
      | bad rule p => simp only [ht]
      | tok t =>
        have h3 := (tok_len ht).1
        have h4 : 1 ≤ (c :: r').length := by simp
        have e := scanF_fuel k j ((c :: r').drop t.text.length) (i + skip r + t.text.length) (by simp only [List.length_drop]; omega) (by simp only [List.length_drop]; omega)
        simp only [ht, e]

def scanA (r : List UInt8) (i : Nat) : List Tok × Option (Nat × Nat) := scanF (r.length + 1) r i
theorem front_eq (s : List UInt8) : front s = scanA s 0 := rfl
theorem scanA_end {r : List UInt8} {i : Nat} (h : r.length ≤ skip r) : scanA r i = ([], none) := by
  simp only [scanA, scanF]
  rw [List.drop_eq_nil_of_le h]
theorem scanA_bad {r : List UInt8} {i rule p : Nat} (h : skip r < r.length) (hb : tokAt (r.drop (skip r)) (i + skip r) = .bad rule p) : scanA r i = ([], some (rule, p)) := by
  simp only [scanA, scanF]
  cases hd : r.drop (skip r) with
  | nil => have := congrArg List.length hd; simp at this; omega
  | cons c r' => rw [hd] at hb; simp only [hb]
theorem scanA_tok {r : List UInt8} {i : Nat} {t : Tok} (h : skip r < r.length) (hb : tokAt (r.drop (skip r)) (i + skip r) = .tok t) :
    scanA r i = (t :: (scanA (r.drop (skip r + t.text.length)) (i + skip r + t.text.length)).1, (scanA (r.drop (skip r + t.text.length)) (i + skip r + t.text.length)).2) := by
  have h3 := (tok_len hb).1
  have e : scanA (r.drop (skip r + t.text.length)) (i + skip r + t.text.length) = scanF r.length (r.drop (skip r + t.text.length)) (i + skip r + t.text.length) :=
    scanF_fuel _ _ _ _ (by omega) (by simp only [List.length_drop]; omega)
  rw [e]
  simp only [scanA, scanF]
  cases hd : r.drop (skip r) with
  | nil => have := congrArg List.length hd; simp at this; omega
  | cons c r' =>
    rw [hd] at hb
    simp only [hb]
    rw [← hd, List.drop_drop]

/-- Scan's answer: tokens, error, place, rule -/
def scanRes (s : List UInt8) : List Tok × Nat × Nat × Nat :=
  if 65536 < s.length then ([], 4, 0, 0) else match (front s).2 with
    | none => ((front s).1, 0, 0, 0)
    | some (rule, p) => ([], 20, p, rule)
end LexS


namespace Go.Proofs.YtnmhlpnapgojjaaGreatDoor
open Go.RowKit Sx LexS _root_.Go.Proofs.Tryz
theorem Tryz.mixed : Tryz.prog.follows .mixedOrders = true := by kernel_rfl

theorem digit_any (c : UInt8) (w : World) : Ret Tryz.prog 113 [.int .u8 (c.toNat : Int)] w fun v w' => v = .bool (isDigit c) ∧ w' = w := by
 refine ret_of [_] func113 rfl ntmps113 rfl ?_
 have st := St.init w []
 refine vc_seq ?_
 refine vc_region ?_
 refine ya ?_
 refine vc_end (vq_then (vk1 0 (vc_seq ?_)))
 refine vc_region ?_
 refine ym ?_
 refine vy (y_geq rfl rfl) ?_
 refine vmb ?_ ?_
 ·intro hg5
  try simp only [decide_eq_true_eq, decide_eq_false_iff_not, Bool.not_eq_true', Bool.not_eq_false', Bool.not_eq_true, Bool.not_eq_false, Int.not_lt, Int.not_le, Nat.not_lt, Nat.not_le, Bool.not_true, Bool.not_false, Bool.true_eq_false, Bool.false_eq_true] at hg5
  refine ym ?_
  refine vy (y_leq rfl rfl) ?_
  refine ypt ?_
  refine ya ?_
  refine vc_end (vq_then (vk1 2 (vc_ret ?_)))
  refine vq_ret1 st (.inl rfl) results113 (.tmp rfl) ?_
  refine ⟨_, rfl, ?_⟩
  exact ⟨by rw [Value.bool.injEq, Bool.eq_iff_iff]; simp only [isDigit, decide_eq_true_eq, true_iff, Bool.false_eq_true, false_iff]; omega, rfl⟩
 ·intro hg5
  try simp only [decide_eq_true_eq, decide_eq_false_iff_not, Bool.not_eq_true', Bool.not_eq_false', Bool.not_eq_true, Bool.not_eq_false, Int.not_lt, Int.not_le, Nat.not_lt, Nat.not_le, Bool.not_true, Bool.not_false, Bool.true_eq_false, Bool.false_eq_true] at hg5
  iterate 2 refine vsk ?_
  refine ypf ?_
  refine ya ?_
  refine vc_end (vq_then (vk1 2 (vc_ret ?_)))
  refine vq_ret1 st (.inl rfl) results113 (.tmp rfl) ?_
  refine ⟨_, rfl, ?_⟩
  exact ⟨by rw [Value.bool.injEq, Bool.eq_iff_iff]; simp only [isDigit, decide_eq_true_eq, true_iff, Bool.false_eq_true, false_iff]; omega, rfl⟩

theorem letter_any (c : UInt8) (w : World) : Ret Tryz.prog 115 [.int .u8 (c.toNat : Int)] w fun v w' => v = .bool (isLetter c) ∧ w' = w := by
 refine ret_of [_] func115 rfl ntmps115 rfl ?_
 have st := St.init w []
 refine vc_seq ?_
 refine vc_region ?_
 refine ya ?_
 refine vc_end (vq_then (vk1 0 (vc_seq ?_)))
 refine vc_region ?_
 refine ym ?_
 refine vy (y_geq rfl rfl) ?_
 refine vmb ?_ ?_
 ·intro hg5
  try simp only [decide_eq_true_eq, decide_eq_false_iff_not, Bool.not_eq_true', Bool.not_eq_false', Bool.not_eq_true, Bool.not_eq_false, Int.not_lt, Int.not_le, Nat.not_lt, Nat.not_le, Bool.not_true, Bool.not_false, Bool.true_eq_false, Bool.false_eq_true] at hg5
  refine ym ?_
  refine vy (y_leq rfl rfl) ?_
  refine ypt ?_
  refine vmb ?_ ?_
  ·intro hg9
   try simp only [decide_eq_true_eq, decide_eq_false_iff_not, Bool.not_eq_true', Bool.not_eq_false', Bool.not_eq_true, Bool.not_eq_false, Int.not_lt, Int.not_le, Nat.not_lt, Nat.not_le, Bool.not_true, Bool.not_false, Bool.true_eq_false, Bool.false_eq_true] at hg9
   iterate 6 refine vsk ?_
   refine ypt ?_
   refine ym ?_
   iterate 2 refine vsk ?_
   refine ypt ?_
   refine ya ?_
   refine vc_end (vq_then (vk1 2 (vc_ret ?_)))
   refine vq_ret1 st (.inl rfl) results115 (.tmp rfl) ?_
   refine ⟨_, rfl, ?_⟩
   exact ⟨by rw [Value.bool.injEq, Bool.eq_iff_iff]; simp only [isLetter, decide_eq_true_eq, true_iff, Bool.false_eq_true, false_iff]; omega, rfl⟩
  ·intro hg9
   try simp only [decide_eq_true_eq, decide_eq_false_iff_not, Bool.not_eq_true', Bool.not_eq_false', Bool.not_eq_true, Bool.not_eq_false, Int.not_lt, Int.not_le, Nat.not_lt, Nat.not_le, Bool.not_true, Bool.not_false, Bool.true_eq_false, Bool.false_eq_true] at hg9
   refine ym ?_
   refine vy (y_geq rfl rfl) ?_
   refine vmb ?_ ?_
   ·intro hg12
    try simp only [decide_eq_true_eq, decide_eq_false_iff_not, Bool.not_eq_true', Bool.not_eq_false', Bool.not_eq_true, Bool.not_eq_false, Int.not_lt, Int.not_le, Nat.not_lt, Nat.not_le, Bool.not_true, Bool.not_false, Bool.true_eq_false, Bool.false_eq_true] at hg12
    refine ym ?_
    refine vy (y_leq rfl rfl) ?_
    refine ypt ?_
    refine ypf ?_
    refine vmb ?_ ?_
    ·intro hg17
     try simp only [decide_eq_true_eq, decide_eq_false_iff_not, Bool.not_eq_true', Bool.not_eq_false', Bool.not_eq_true, Bool.not_eq_false, Int.not_lt, Int.not_le, Nat.not_lt, Nat.not_le, Bool.not_true, Bool.not_false, Bool.true_eq_false, Bool.false_eq_true] at hg17
     iterate 2 refine vsk ?_
     refine ypt ?_
     refine ya ?_
     refine vc_end (vq_then (vk1 2 (vc_ret ?_)))
     refine vq_ret1 st (.inl rfl) results115 (.tmp rfl) ?_
     refine ⟨_, rfl, ?_⟩
     exact ⟨by rw [Value.bool.injEq, Bool.eq_iff_iff]; simp only [isLetter, decide_eq_true_eq, true_iff, Bool.false_eq_true, false_iff]; omega, rfl⟩
    ·intro hg17
     try simp only [decide_eq_true_eq, decide_eq_false_iff_not, Bool.not_eq_true', Bool.not_eq_false', Bool.not_eq_true, Bool.not_eq_false, Int.not_lt, Int.not_le, Nat.not_lt, Nat.not_le, Bool.not_true, Bool.not_false, Bool.true_eq_false, Bool.false_eq_true] at hg17
     refine ym ?_
     refine vy (y_eqi rfl rfl) ?_
     refine ypf ?_
     refine ya ?_
     refine vc_end (vq_then (vk1 2 (vc_ret ?_)))
     refine vq_ret1 st (.inl rfl) results115 (.tmp rfl) ?_
     refine ⟨_, rfl, ?_⟩
     exact ⟨by rw [Value.bool.injEq, Bool.eq_iff_iff]; simp only [isLetter, decide_eq_true_eq, true_iff, Bool.false_eq_true, false_iff]; omega, rfl⟩
   ·intro hg12
    try simp only [decide_eq_true_eq, decide_eq_false_iff_not, Bool.not_eq_true', Bool.not_eq_false', Bool.not_eq_true, Bool.not_eq_false, Int.not_lt, Int.not_le, Nat.not_lt, Nat.not_le, Bool.not_true, Bool.not_false, Bool.true_eq_false, Bool.false_eq_true] at hg12
    iterate 2 refine vsk ?_
    iterate 2 refine ypf ?_
    iterate 2 refine ym ?_
    refine vy (y_eqi rfl rfl) ?_
    refine ypf ?_
    refine ya ?_
    refine vc_end (vq_then (vk1 2 (vc_ret ?_)))
    refine vq_ret1 st (.inl rfl) results115 (.tmp rfl) ?_
    refine ⟨_, rfl, ?_⟩
    exact ⟨by rw [Value.bool.injEq, Bool.eq_iff_iff]; simp only [isLetter, decide_eq_true_eq, true_iff, Bool.false_eq_true, false_iff]; omega, rfl⟩
 ·intro hg5
  try simp only [decide_eq_true_eq, decide_eq_false_iff_not, Bool.not_eq_true', Bool.not_eq_false', Bool.not_eq_true, Bool.not_eq_false, Int.not_lt, Int.not_le, Nat.not_lt, Nat.not_le, Bool.not_true, Bool.not_false, Bool.true_eq_false, Bool.false_eq_true] at hg5
  iterate 2 refine vsk ?_
  refine ypf ?_
  iterate 2 refine ym ?_
  refine vy (y_geq rfl rfl) ?_
  refine vmb ?_ ?_
  ·intro hg12
   try simp only [decide_eq_true_eq, decide_eq_false_iff_not, Bool.not_eq_true', Bool.not_eq_false', Bool.not_eq_true, Bool.not_eq_false, Int.not_lt, Int.not_le, Nat.not_lt, Nat.not_le, Bool.not_true, Bool.not_false, Bool.true_eq_false, Bool.false_eq_true] at hg12
   refine ym ?_
   refine vy (y_leq rfl rfl) ?_
   refine ypt ?_
   refine ypf ?_
   refine vmb ?_ ?_
   ·intro hg17
    try simp only [decide_eq_true_eq, decide_eq_false_iff_not, Bool.not_eq_true', Bool.not_eq_false', Bool.not_eq_true, Bool.not_eq_false, Int.not_lt, Int.not_le, Nat.not_lt, Nat.not_le, Bool.not_true, Bool.not_false, Bool.true_eq_false, Bool.false_eq_true] at hg17
    iterate 2 refine vsk ?_
    refine ypt ?_
    refine ya ?_
    refine vc_end (vq_then (vk1 2 (vc_ret ?_)))
    refine vq_ret1 st (.inl rfl) results115 (.tmp rfl) ?_
    refine ⟨_, rfl, ?_⟩
    exact ⟨by rw [Value.bool.injEq, Bool.eq_iff_iff]; simp only [isLetter, decide_eq_true_eq, true_iff, Bool.false_eq_true, false_iff]; omega, rfl⟩
   ·intro hg17
    try simp only [decide_eq_true_eq, decide_eq_false_iff_not, Bool.not_eq_true', Bool.not_eq_false', Bool.not_eq_true, Bool.not_eq_false, Int.not_lt, Int.not_le, Nat.not_lt, Nat.not_le, Bool.not_true, Bool.not_false, Bool.true_eq_false, Bool.false_eq_true] at hg17
    refine ym ?_
    refine vy (y_eqi rfl rfl) ?_
    refine ypf ?_
    refine ya ?_
    refine vc_end (vq_then (vk1 2 (vc_ret ?_)))
    refine vq_ret1 st (.inl rfl) results115 (.tmp rfl) ?_
    refine ⟨_, rfl, ?_⟩
    exact ⟨by rw [Value.bool.injEq, Bool.eq_iff_iff]; simp only [isLetter, decide_eq_true_eq, true_iff, Bool.false_eq_true, false_iff]; omega, rfl⟩
  ·intro hg12
   try simp only [decide_eq_true_eq, decide_eq_false_iff_not, Bool.not_eq_true', Bool.not_eq_false', Bool.not_eq_true, Bool.not_eq_false, Int.not_lt, Int.not_le, Nat.not_lt, Nat.not_le, Bool.not_true, Bool.not_false, Bool.true_eq_false, Bool.false_eq_true] at hg12
   iterate 2 refine vsk ?_
   iterate 2 refine ypf ?_
   iterate 2 refine ym ?_
   refine vy (y_eqi rfl rfl) ?_
   refine ypf ?_
   refine ya ?_
   refine vc_end (vq_then (vk1 2 (vc_ret ?_)))
   refine vq_ret1 st (.inl rfl) results115 (.tmp rfl) ?_
   refine ⟨_, rfl, ?_⟩
   exact ⟨by rw [Value.bool.injEq, Bool.eq_iff_iff]; simp only [isLetter, decide_eq_true_eq, true_iff, Bool.false_eq_true, false_iff]; omega, rfl⟩

theorem blank_any (c : UInt8) (w : World) : Ret Tryz.prog 226 [.int .u8 (c.toNat : Int)] w fun v w' => v = .bool (isBlank c) ∧ w' = w := by
 refine ret_of [_] func226 rfl ntmps226 rfl ?_
 have st := St.init w []
 refine vc_seq ?_
 refine vc_region ?_
 refine ya ?_
 refine vc_end (vq_then (vk1 0 (vc_seq ?_)))
 refine vc_region ?_
 refine ym ?_
 refine vy (y_eqi rfl rfl) ?_
 refine vmb ?_ ?_
 ·intro hg5
  try simp only [decide_eq_true_eq, decide_eq_false_iff_not, Bool.not_eq_true', Bool.not_eq_false', Bool.not_eq_true, Bool.not_eq_false, Int.not_lt, Int.not_le, Nat.not_lt, Nat.not_le, Bool.not_true, Bool.not_false, Bool.true_eq_false, Bool.false_eq_true] at hg5
  iterate 2 refine vsk ?_
  refine ypt ?_
  refine ym ?_
  iterate 2 refine vsk ?_
  refine ypt ?_
  refine ym ?_
  iterate 2 refine vsk ?_
  refine ypt ?_
  refine ya ?_
  refine vc_end (vq_then (vk1 2 (vc_ret ?_)))
  refine vq_ret1 st (.inl rfl) results226 (.tmp rfl) ?_
  refine ⟨_, rfl, ?_⟩
  exact ⟨by rw [Value.bool.injEq, Bool.eq_iff_iff]; simp only [isBlank, decide_eq_true_eq, true_iff, Bool.false_eq_true, false_iff]; omega, rfl⟩
 ·intro hg5
  try simp only [decide_eq_true_eq, decide_eq_false_iff_not, Bool.not_eq_true', Bool.not_eq_false', Bool.not_eq_true, Bool.not_eq_false, Int.not_lt, Int.not_le, Nat.not_lt, Nat.not_le, Bool.not_true, Bool.not_false, Bool.true_eq_false, Bool.false_eq_true] at hg5
  refine ym ?_
  refine vy (y_eqi rfl rfl) ?_
  refine ypf ?_
  refine vmb ?_ ?_
  ·intro hg9
   try simp only [decide_eq_true_eq, decide_eq_false_iff_not, Bool.not_eq_true', Bool.not_eq_false', Bool.not_eq_true, Bool.not_eq_false, Int.not_lt, Int.not_le, Nat.not_lt, Nat.not_le, Bool.not_true, Bool.not_false, Bool.true_eq_false, Bool.false_eq_true] at hg9
   iterate 2 refine vsk ?_
   refine ypt ?_
   refine ym ?_
   iterate 2 refine vsk ?_
   refine ypt ?_
   refine ya ?_
   refine vc_end (vq_then (vk1 2 (vc_ret ?_)))
   refine vq_ret1 st (.inl rfl) results226 (.tmp rfl) ?_
   refine ⟨_, rfl, ?_⟩
   exact ⟨by rw [Value.bool.injEq, Bool.eq_iff_iff]; simp only [isBlank, decide_eq_true_eq, true_iff, Bool.false_eq_true, false_iff]; omega, rfl⟩
  ·intro hg9
   try simp only [decide_eq_true_eq, decide_eq_false_iff_not, Bool.not_eq_true', Bool.not_eq_false', Bool.not_eq_true, Bool.not_eq_false, Int.not_lt, Int.not_le, Nat.not_lt, Nat.not_le, Bool.not_true, Bool.not_false, Bool.true_eq_false, Bool.false_eq_true] at hg9
   refine ym ?_
   refine vy (y_eqi rfl rfl) ?_
   refine ypf ?_
   refine vmb ?_ ?_
   ·intro hg13
    try simp only [decide_eq_true_eq, decide_eq_false_iff_not, Bool.not_eq_true', Bool.not_eq_false', Bool.not_eq_true, Bool.not_eq_false, Int.not_lt, Int.not_le, Nat.not_lt, Nat.not_le, Bool.not_true, Bool.not_false, Bool.true_eq_false, Bool.false_eq_true] at hg13
    iterate 2 refine vsk ?_
    refine ypt ?_
    refine ya ?_
    refine vc_end (vq_then (vk1 2 (vc_ret ?_)))
    refine vq_ret1 st (.inl rfl) results226 (.tmp rfl) ?_
    refine ⟨_, rfl, ?_⟩
    exact ⟨by rw [Value.bool.injEq, Bool.eq_iff_iff]; simp only [isBlank, decide_eq_true_eq, true_iff, Bool.false_eq_true, false_iff]; omega, rfl⟩
   ·intro hg13
    try simp only [decide_eq_true_eq, decide_eq_false_iff_not, Bool.not_eq_true', Bool.not_eq_false', Bool.not_eq_true, Bool.not_eq_false, Int.not_lt, Int.not_le, Nat.not_lt, Nat.not_le, Bool.not_true, Bool.not_false, Bool.true_eq_false, Bool.false_eq_true] at hg13
    refine ym ?_
    refine vy (y_eqi rfl rfl) ?_
    refine ypf ?_
    refine ya ?_
    refine vc_end (vq_then (vk1 2 (vc_ret ?_)))
    refine vq_ret1 st (.inl rfl) results226 (.tmp rfl) ?_
    refine ⟨_, rfl, ?_⟩
    exact ⟨by rw [Value.bool.injEq, Bool.eq_iff_iff]; simp only [isBlank, decide_eq_true_eq, true_iff, Bool.false_eq_true, false_iff]; omega, rfl⟩

end Go.Proofs.YtnmhlpnapgojjaaGreatDoor


namespace Go.Proofs.YtnmhlpnapgojjaaGreatDoor
open Go.RowKit Sx LexS _root_.Go.Proofs.Tryz

set_option maxHeartbeats 1000000 in
theorem word_any (l : List UInt8) (w : World) : Ret Tryz.prog 114 [str l] w fun v w' => v = .bool (isWord l) ∧ w' = w := by
 refine ret_of [_] func114 rfl ntmps114 rfl ?_
 have st := St.init w []
 refine vc_seq (vc_region ?_)
 refine ya ?_
 refine vc_end (vq_then (vk1 0 (vc_seq (vc_seq (vc_region ?_)))))
 refine ym ?_
 refine vc_end (vq_then (vk1 3 (vc_block (vc_seq (vc_seq (vc_region ?_))))))
 refine vy (y_eqs rfl rfl) ?_
 refine ya ?_
 refine vc_end (vq_then (vk2 3 4 ?_))
 refine vc_ifs rfl ?_ ?_
 ·intro hc4
  try simp only [dn] at hc4
  refine vc_code_skip (vq_then (vk1 4 ?_))
  refine vc_ift rfl ?_
  refine vc_seq (vc_region ?_)
  refine ya ?_
  refine vc_end (vq_then (vk1 2 (vc_ret (vq_block_ret (vq_then_ret ?_)))))
  refine vq_ret1 st (.inl rfl) results114 (.tmp rfl) ?_
  refine ⟨_, rfl, ?_⟩
  refine ⟨?_, rfl⟩
  rw [Value.bool.injEq]
  (symm; simp only [isWord, decide_eq_true_eq]; simp only [wShared, wLock, wThread, wLocal, wIf, wElse, wWhile, wPrint, wSkip, wSwap]; simp only [*, true_or, or_true]; done)
 ·intro hc4
  try simp only [dn] at hc4
  refine vc_seq (vc_region ?_)
  refine vy (y_eqs rfl rfl) ?_
  refine ya ?_
  refine vc_end (vq_then (vk2 3 4 ?_))
  refine vc_ifs rfl ?_ ?_
  ·intro hc4
   try simp only [dn] at hc4
   refine vc_code_skip (vq_then (vk1 4 ?_))
   refine vc_ift rfl ?_
   refine vc_seq (vc_region ?_)
   refine ya ?_
   refine vc_end (vq_then (vk1 2 (vc_ret (vq_block_ret (vq_then_ret ?_)))))
   refine vq_ret1 st (.inl rfl) results114 (.tmp rfl) ?_
   refine ⟨_, rfl, ?_⟩
   refine ⟨?_, rfl⟩
   rw [Value.bool.injEq]
   (symm; simp only [isWord, decide_eq_true_eq]; simp only [wShared, wLock, wThread, wLocal, wIf, wElse, wWhile, wPrint, wSkip, wSwap]; simp only [*, true_or, or_true]; done)
  ·intro hc4
   try simp only [dn] at hc4
   refine vc_seq (vc_region ?_)
   refine vy (y_eqs rfl rfl) ?_
   refine ya ?_
   refine vc_end (vq_then (vk2 3 4 ?_))
   refine vc_ifs rfl ?_ ?_
   ·intro hc4
    try simp only [dn] at hc4
    refine vc_code_skip (vq_then (vk1 4 ?_))
    refine vc_ift rfl ?_
    refine vc_seq (vc_region ?_)
    refine ya ?_
    refine vc_end (vq_then (vk1 2 (vc_ret (vq_block_ret (vq_then_ret ?_)))))
    refine vq_ret1 st (.inl rfl) results114 (.tmp rfl) ?_
    refine ⟨_, rfl, ?_⟩
    refine ⟨?_, rfl⟩
    rw [Value.bool.injEq]
    (symm; simp only [isWord, decide_eq_true_eq]; simp only [wShared, wLock, wThread, wLocal, wIf, wElse, wWhile, wPrint, wSkip, wSwap]; simp only [*, true_or, or_true]; done)
   ·intro hc4
    try simp only [dn] at hc4
    refine vc_seq (vc_region ?_)
    refine vy (y_eqs rfl rfl) ?_
    refine ya ?_
    refine vc_end (vq_then (vk2 3 4 ?_))
    refine vc_ifs rfl ?_ ?_
    ·intro hc4
     try simp only [dn] at hc4
     refine vc_code_skip (vq_then (vk1 4 ?_))
     refine vc_ift rfl ?_
     refine vc_seq (vc_region ?_)
     refine ya ?_
     refine vc_end (vq_then (vk1 2 (vc_ret (vq_block_ret (vq_then_ret ?_)))))
     refine vq_ret1 st (.inl rfl) results114 (.tmp rfl) ?_
     refine ⟨_, rfl, ?_⟩
     refine ⟨?_, rfl⟩
     rw [Value.bool.injEq]
     (symm; simp only [isWord, decide_eq_true_eq]; simp only [wShared, wLock, wThread, wLocal, wIf, wElse, wWhile, wPrint, wSkip, wSwap]; simp only [*, true_or, or_true]; done)
    ·intro hc4
     try simp only [dn] at hc4
     refine vc_seq (vc_region ?_)
     refine vy (y_eqs rfl rfl) ?_
     refine ya ?_
     refine vc_end (vq_then (vk2 3 4 ?_))
     refine vc_ifs rfl ?_ ?_
     ·intro hc4
      try simp only [dn] at hc4
      refine vc_code_skip (vq_then (vk1 4 ?_))
      refine vc_ift rfl ?_
      refine vc_seq (vc_region ?_)
      refine ya ?_
      refine vc_end (vq_then (vk1 2 (vc_ret (vq_block_ret (vq_then_ret ?_)))))
      refine vq_ret1 st (.inl rfl) results114 (.tmp rfl) ?_
      refine ⟨_, rfl, ?_⟩
      refine ⟨?_, rfl⟩
      rw [Value.bool.injEq]
      (symm; simp only [isWord, decide_eq_true_eq]; simp only [wShared, wLock, wThread, wLocal, wIf, wElse, wWhile, wPrint, wSkip, wSwap]; simp only [*, true_or, or_true]; done)
     ·intro hc4
      try simp only [dn] at hc4
      refine vc_seq (vc_region ?_)
      refine vy (y_eqs rfl rfl) ?_
      refine ya ?_
      refine vc_end (vq_then (vk2 3 4 ?_))
      refine vc_ifs rfl ?_ ?_
      ·intro hc4
       try simp only [dn] at hc4
       refine vc_code_skip (vq_then (vk1 4 ?_))
       refine vc_ift rfl ?_
       refine vc_seq (vc_region ?_)
       refine ya ?_
       refine vc_end (vq_then (vk1 2 (vc_ret (vq_block_ret (vq_then_ret ?_)))))
       refine vq_ret1 st (.inl rfl) results114 (.tmp rfl) ?_
       refine ⟨_, rfl, ?_⟩
       refine ⟨?_, rfl⟩
       rw [Value.bool.injEq]
       (symm; simp only [isWord, decide_eq_true_eq]; simp only [wShared, wLock, wThread, wLocal, wIf, wElse, wWhile, wPrint, wSkip, wSwap]; simp only [*, true_or, or_true]; done)
      ·intro hc4
       try simp only [dn] at hc4
       refine vc_seq (vc_region ?_)
       refine vy (y_eqs rfl rfl) ?_
       refine ya ?_
       refine vc_end (vq_then (vk2 3 4 ?_))
       refine vc_ifs rfl ?_ ?_
       ·intro hc4
        try simp only [dn] at hc4
        refine vc_code_skip (vq_then (vk1 4 ?_))
        refine vc_ift rfl ?_
        refine vc_seq (vc_region ?_)
        refine ya ?_
        refine vc_end (vq_then (vk1 2 (vc_ret (vq_block_ret (vq_then_ret ?_)))))
        refine vq_ret1 st (.inl rfl) results114 (.tmp rfl) ?_
        refine ⟨_, rfl, ?_⟩
        refine ⟨?_, rfl⟩
        rw [Value.bool.injEq]
        (symm; simp only [isWord, decide_eq_true_eq]; simp only [wShared, wLock, wThread, wLocal, wIf, wElse, wWhile, wPrint, wSkip, wSwap]; simp only [*, true_or, or_true]; done)
       ·intro hc4
        try simp only [dn] at hc4
        refine vc_seq (vc_region ?_)
        refine vy (y_eqs rfl rfl) ?_
        refine ya ?_
        refine vc_end (vq_then (vk2 3 4 ?_))
        refine vc_ifs rfl ?_ ?_
        ·intro hc4
         try simp only [dn] at hc4
         refine vc_code_skip (vq_then (vk1 4 ?_))
         refine vc_ift rfl ?_
         refine vc_seq (vc_region ?_)
         refine ya ?_
         refine vc_end (vq_then (vk1 2 (vc_ret (vq_block_ret (vq_then_ret ?_)))))
         refine vq_ret1 st (.inl rfl) results114 (.tmp rfl) ?_
         refine ⟨_, rfl, ?_⟩
         refine ⟨?_, rfl⟩
         rw [Value.bool.injEq]
         (symm; simp only [isWord, decide_eq_true_eq]; simp only [wShared, wLock, wThread, wLocal, wIf, wElse, wWhile, wPrint, wSkip, wSwap]; simp only [*, true_or, or_true]; done)
        ·intro hc4
         try simp only [dn] at hc4
         refine vc_seq (vc_region ?_)
         refine vy (y_eqs rfl rfl) ?_
         refine ya ?_
         refine vc_end (vq_then (vk2 3 4 ?_))
         refine vc_ifs rfl ?_ ?_
         ·intro hc4
          try simp only [dn] at hc4
          refine vc_code_skip (vq_then (vk1 4 ?_))
          refine vc_ift rfl ?_
          refine vc_seq (vc_region ?_)
          refine ya ?_
          refine vc_end (vq_then (vk1 2 (vc_ret (vq_block_ret (vq_then_ret ?_)))))
          refine vq_ret1 st (.inl rfl) results114 (.tmp rfl) ?_
          refine ⟨_, rfl, ?_⟩
          refine ⟨?_, rfl⟩
          rw [Value.bool.injEq]
          (symm; simp only [isWord, decide_eq_true_eq]; simp only [wShared, wLock, wThread, wLocal, wIf, wElse, wWhile, wPrint, wSkip, wSwap]; simp only [*, true_or, or_true]; done)
         ·intro hc4
          try simp only [dn] at hc4
          refine vc_region ?_
          refine vy (y_eqs rfl rfl) ?_
          refine ya ?_
          refine vc_end (vq_then (vk1 4 ?_))
          refine vc_ifs rfl ?_ ?_
          ·intro hc4
           try simp only [dn] at hc4
           refine vc_seq (vc_region ?_)
           refine ya ?_
           refine vc_end (vq_then (vk1 2 (vc_ret (vq_block_ret (vq_then_ret ?_)))))
           refine vq_ret1 st (.inl rfl) results114 (.tmp rfl) ?_
           refine ⟨_, rfl, ?_⟩
           refine ⟨?_, rfl⟩
           rw [Value.bool.injEq]
           (symm; simp only [isWord, decide_eq_true_eq]; simp only [wShared, wLock, wThread, wLocal, wIf, wElse, wWhile, wPrint, wSkip, wSwap]; simp only [*, true_or, or_true]; done)
          ·intro hc4
           try simp only [dn] at hc4
           refine vc_code_skip (vq_block (vq_then (vc_keep [] trivial (vc_seq (vc_region ?_)))))
           refine ya ?_
           refine vc_end (vq_then (vk1 2 (vc_ret ?_)))
           refine vq_ret1 st (.inl rfl) results114 (.tmp rfl) ?_
           refine ⟨_, rfl, ?_⟩
           refine ⟨?_, rfl⟩
           rw [Value.bool.injEq]
           (symm; simp only [isWord, decide_eq_false_iff_not]; simp only [wShared, wLock, wThread, wLocal, wIf, wElse, wWhile, wPrint, wSkip, wSwap]; simp only [*, or_self, not_false_eq_true])

end Go.Proofs.YtnmhlpnapgojjaaGreatDoor


namespace Go.Proofs.YtnmhlpnapgojjaaGreatDoor
open Go.RowKit Sx LexS _root_.Go.Proofs.Tryz
theorem isName_eq {l : List UInt8} (h0 : l ≠ []) (h1 : l.length ≤ 32) (h2 : isDigit (l.getD 0 0) = false) (h3 : isWord l = false) : isName l = l.all isIdent := by
 match l, h0 with
 | c :: r, _ => simp at h2 h1; simp [isName, h2, h3, h1]
theorem isName_nil {l : List UInt8} (h : l = []) : isName l = false := by subst h; rfl
theorem isName_long {l : List UInt8} (h : 32 < l.length) : isName l = false := by
 match l, h with
 | c :: r, h => simp only [isName]; rw [show decide ((c :: r).length ≤ 32) = false from by simp only [decide_eq_false_iff_not]; omega]; simp
theorem isName_digit {l : List UInt8} (h : isDigit (l.getD 0 0) = true) : isName l = false := by
 match l with
 | [] => rfl
 | c :: r => simp at h; simp [isName, h]
theorem isName_word {l : List UInt8} (h : isWord l = true) : isName l = false := by
 match l with
 | [] => rfl
 | c :: r => simp [isName, h]
theorem all_take_succ {p : UInt8 → Bool} {l : List UInt8} {m : Nat} (hm : m < l.length) (h : (l.take m).all p = true) (hp : p (l.getD m 0) = true) : (l.take (m + 1)).all p = true := by
 rw [List.take_add_one]
 have : l[m]? = some (l.getD m 0) := by simp [List.getD, hm]
 rw [this]
 simp only [List.all_append, h, Option.toList_some, List.all_cons, hp, List.all_nil, Bool.and_self]
theorem all_no {p : UInt8 → Bool} {l : List UInt8} {m : Nat} (hm : m < l.length) (hp : p (l.getD m 0) = false) : l.all p = false := by
 rw [List.all_eq_false]
 refine ⟨l.getD m 0, ?_, by rw [hp]; simp⟩
 rw [show l.getD m 0 = l[m] from by simp [List.getD, hm]]
 exact List.getElem_mem hm
set_option maxHeartbeats 1000000 in
theorem name_any (l : List UInt8) (w : World) : Ret Tryz.prog 52 [str l] w fun v w' => v = .bool (isName l) ∧ w' = w := by
 refine ret_of [_] func52 rfl ntmps52 rfl ?_
 have st := St.init w []
 refine vc_seq (vc_region ?_)
 refine ya ?_
 refine vc_end (vq_then (vk1 0 (vc_seq (vc_seq (vc_region ?_)))))
 refine ym ?_
 refine vy (y_eqs rfl rfl) ?_
 refine vmb ?_ ?_
 ·intro hg6
  try simp only [dn] at hg6
  iterate 3 refine vsk ?_
  refine ypt ?_
  refine ym ?_
  iterate 3 refine vsk ?_
  refine ypt ?_
  refine ym ?_
  iterate 2 refine vsk ?_
  refine ypt ?_
  refine vc_end (vq_then (vk2 0 19 ?_))
  refine vc_ift rfl ?_
  refine vc_seq (vc_region ?_)
  refine ya ?_
  refine vc_end (vq_then (vk1 2 (vc_ret (vq_then_ret ?_))))
  refine vq_ret1 st (.inl rfl) results52 (.tmp rfl) ?_
  refine ⟨_, rfl, ?_⟩
  refine ⟨?_, rfl⟩
  rw [Value.bool.injEq]
  (symm; apply isName_nil; assumption)
 ·intro hg6
  try simp only [dn] at hg6
  refine ym ?_
  refine vy (y_lens rfl underlying9) ?_
  refine vy (y_gtr rfl rfl) ?_
  refine ypf ?_
  refine vmb ?_ ?_
  ·intro hg11
   try simp only [dn] at hg11
   iterate 3 refine vsk ?_
   refine ypt ?_
   refine ym ?_
   iterate 2 refine vsk ?_
   refine ypt ?_
   refine vc_end (vq_then (vk2 0 19 ?_))
   refine vc_ift rfl ?_
   refine vc_seq (vc_region ?_)
   refine ya ?_
   refine vc_end (vq_then (vk1 2 (vc_ret (vq_then_ret ?_))))
   refine vq_ret1 st (.inl rfl) results52 (.tmp rfl) ?_
   refine ⟨_, rfl, ?_⟩
   refine ⟨?_, rfl⟩
   rw [Value.bool.injEq]
   (symm; apply isName_long; omega)
  ·intro hg11
   try simp only [dn] at hg11
   refine ym ?_
   refine vy (y_ixs (k := 0) rfl rfl underlying9 rfl (by (rcases l with _ | ⟨_, _⟩ <;> simp at * ))) ?_
   refine vc_e (e_call [_] rfl rfl call113 rfl (digit_any _ _) ?_)
   rintro _ w ⟨rfl, rfl⟩
   refine ypf ?_
   refine vmb ?_ ?_
   ·intro hg16
    try simp only [dn] at hg16
    iterate 2 refine vsk ?_
    refine ypt ?_
    refine vc_end (vq_then (vk2 0 19 ?_))
    refine vc_ift rfl ?_
    refine vc_seq (vc_region ?_)
    refine ya ?_
    refine vc_end (vq_then (vk1 2 (vc_ret (vq_then_ret ?_))))
    refine vq_ret1 st (.inl rfl) results52 (.tmp rfl) ?_
    refine ⟨_, rfl, ?_⟩
    refine ⟨?_, rfl⟩
    rw [Value.bool.injEq]
    (symm; apply isName_digit; assumption)
   ·intro hg16
    try simp only [dn] at hg16
    refine ym ?_
    refine vc_e (e_call [_] rfl rfl call114 rfl (word_any _ _) ?_)
    rintro _ w ⟨rfl, rfl⟩
    refine ypf ?_
    refine vc_end (vq_then (vk2 0 19 ?_))
    refine vc_ifs rfl ?_ ?_
    ·intro hc19
     try simp only [dn] at hc19
     refine vc_seq (vc_region ?_)
     refine ya ?_
     refine vc_end (vq_then (vk1 2 (vc_ret (vq_then_ret ?_))))
     refine vq_ret1 st (.inl rfl) results52 (.tmp rfl) ?_
     refine ⟨_, rfl, ?_⟩
     refine ⟨?_, rfl⟩
     rw [Value.bool.injEq]
     (symm; apply isName_word; assumption)
    ·intro hc19
     try simp only [dn] at hc19
     refine vc_code_skip (vq_then (vk1 0 (vc_seq (vc_seq (vc_region ?_)))))
     refine ym ?_
     refine vy (y_lens rfl underlying9) ?_
     refine ym ?_
     refine vc_end (vq_then (vk3 0 21 22 (vc_block ?_)))
     refine vc_loop (w0 := _) (M := _) (fun (m : Nat) => [(0, str l), (21, .int .i64 (l.length : Int)), (22, .int .i64 (m : Int))]) (fun _ => []) (fun m w' => m ≤ l.length ∧ (l.take m).all isIdent = true ∧ w' = w) (fun m => l.length - m) 0 ⟨rfl, rfl, rfl, trivial⟩ st ⟨by omega, by simp, rfl⟩ ?_
     rintro m w' ⟨hm, hall, rfl⟩ st
     refine vc_seq (vc_region ?_)
     refine vy (y_lss rfl rfl) ?_
     refine vc_end (vq_then (vk4 0 21 22 23 (vc_seq ?_)))
     refine vc_ifs rfl ?_ ?_
     ·intro hc23
      try simp only [dn] at hc23
      refine vc_code_skip (vq_then (vk3 0 21 22 (vc_seq (vc_block (vc_seq (vc_region ?_))))))
      refine ym ?_
      refine ya ?_
      refine vc_end (vq_then (vk4 0 3 21 22 (vc_seq (vc_region ?_))))
      iterate 2 refine ym ?_
      refine vy (y_ixs (k := _) rfl rfl underlying9 rfl (by omega)) ?_
      refine vc_e (e_call [_] rfl rfl call115 rfl (letter_any _ _) ?_)
      rintro _ w ⟨rfl, rfl⟩
      refine vy (y_not rfl) ?_
      refine vmb ?_ ?_
      ·intro hg30
       try simp only [dn] at hg30
       iterate 2 refine ym ?_
       refine vy (y_ixs (k := _) rfl rfl underlying9 rfl (by omega)) ?_
       refine vc_e (e_call [_] rfl rfl call113 rfl (digit_any _ _) ?_)
       rintro _ w ⟨rfl, rfl⟩
       refine vy (y_not rfl) ?_
       refine ypt ?_
       refine vc_end (vq_then (vk4 0 21 22 36 ?_))
       refine vc_ifs rfl ?_ ?_
       ·intro hc36
        try simp only [dn] at hc36
        refine vc_seq (vc_region ?_)
        refine ya ?_
        refine vc_end (vq_then (vk1 2 (vc_ret (vq_block_ret (vq_then_ret (vq_then_ret (vq_block_ret (vq_then_ret ?_))))))))
        refine vq_ret1 st (.inl rfl) results52 (.tmp rfl) ?_
        refine ⟨_, rfl, ?_⟩
        refine ⟨?_, rfl⟩
        rw [Value.bool.injEq]
        (symm; rw [isName_eq (by assumption) (by omega) (by assumption) (by assumption)]; exact all_no (m := m) (by omega) (by simp only [isIdent, *, Bool.or_true, Bool.true_or, Bool.or_self]))
       ·intro hc36
        try simp only [dn] at hc36
        refine vc_code_skip (vq_block (vq_then (vk3 0 21 22 (vc_region ?_))))
        refine vy (y_add rfl rfl rfl (by omega) (by omega)) ?_
        refine ym ?_
        refine vc_end ?_
        refine vq_again (m + 1) ⟨rfl, rfl, rfl, trivial⟩ st ?_ ?_
        ·exact ⟨by omega, all_take_succ (by omega) hall (by simp only [isIdent, *, Bool.or_true, Bool.true_or, Bool.or_self]), rfl⟩
        ·omega
      ·intro hg30
       try simp only [dn] at hg30
       iterate 5 refine vsk ?_
       refine ypf ?_
       refine vc_end (vq_then (vk4 0 21 22 36 ?_))
       refine vc_iff rfl ?_
       refine vc_code_skip (vq_block (vq_then (vk3 0 21 22 (vc_region ?_))))
       refine vy (y_add rfl rfl rfl (by omega) (by omega)) ?_
       refine ym ?_
       refine vc_end ?_
       refine vq_again (m + 1) ⟨rfl, rfl, rfl, trivial⟩ st ?_ ?_
       ·exact ⟨by omega, all_take_succ (by omega) hall (by simp only [isIdent, *, Bool.or_true, Bool.true_or, Bool.or_self]), rfl⟩
       ·omega
     ·intro hc23
      try simp only [dn] at hc23
      refine vc_exit (vq_then_exit (vq_then_exit (vq_block_exit (vq_then (vc_keep [] trivial (vc_seq (vc_region ?_)))))))
      refine ya ?_
      refine vc_end (vq_then (vk1 2 (vc_ret ?_)))
      refine vq_ret1 st (.inl rfl) results52 (.tmp rfl) ?_
      refine ⟨_, rfl, ?_⟩
      refine ⟨?_, rfl⟩
      rw [Value.bool.injEq]
      (symm; rw [isName_eq (by assumption) (by omega) (by assumption) (by assumption)]; rw [List.take_of_length_le (by omega)] at hall; exact hall)

end Go.Proofs.YtnmhlpnapgojjaaGreatDoor


/- Blanks and remarks between tokens: no program in sight. -/
namespace LexS

end LexS


/- Tokens, their places left out: no program in sight. -/
namespace LexS
theorem scan_inv {r : List UInt8} {i : Nat} {t : Tok} {T : List Tok} {f : Option (Nat × Nat)} (h : scanA r i = (t :: T, f)) :
    skip r < r.length ∧ tokAt (r.drop (skip r)) (i + skip r) = .tok t ∧ scanA (r.drop (skip r + t.text.length)) (i + skip r + t.text.length) = (T, f) := by
  rcases Nat.lt_or_ge (skip r) r.length with hk | hk
  · cases hx : tokAt (r.drop (skip r)) (i + skip r) with
    | bad rule q => rw [scanA_bad hk hx] at h; simp at h
    | tok x =>
      rw [scanA_tok hk hx] at h
      simp only [Prod.mk.injEq, List.cons.injEq] at h
      obtain ⟨⟨rfl, h1⟩, h2⟩ := h
      exact ⟨hk, rfl, Prod.ext h1 h2⟩
  · rw [scanA_end hk] at h; simp at h
end LexS


/- Plain laws on tokens that are told: which are right, and that printed they are cut again. -/
namespace LexS
/-- the document's answer for a number's digits -/
def numV (l : List UInt8) : Option Nat := if l = [] ∨ (1 < l.length ∧ l.getD 0 0 = 48) ∨ l.all isDigit = false ∨ 9223372036854775807 < numVal l then none else some (numVal l)
theorem tw_all (p : UInt8 → Bool) : ∀ (l : List UInt8), (l.takeWhile p).all p = true
  | [] => rfl
  | c :: l => by
    rw [List.takeWhile_cons]
    split
    · rename_i h; simp [h, tw_all p l]
    · rfl
theorem digit_not_letter {c : UInt8} (h : isDigit c = true) : isLetter c = false := by
  simp only [isDigit, isLetter, decide_eq_true_eq, decide_eq_false_iff_not] at *; omega
/-- a token that is cut is right -/
theorem tok_right {r : List UInt8} {i : Nat} {x : Tok} (h : tokAt r i = .tok x) : (x.kind = 1 ∧ isName x.text = true ∧ x.word = 0) ∨ (x.kind = 2 ∧ isWord x.text = true ∧ x.word = 0) ∨ (x.kind = 3 ∧ numV x.text = some x.word) ∨ (x.kind = 4 ∧ isSign x.text = true ∧ x.word = 0) := by
  match r, h with
  | [], h => simp [tokAt] at h
  | c :: r, h =>
    simp only [tokAt] at h
    split at h
    · rename_i hc
      split at h
      · rename_i hw; cases h; exact .inr (.inl ⟨rfl, hw, rfl⟩)
      · rename_i hw
        split at h
        · cases h
        · rename_i hl
          cases h
          refine .inl ⟨rfl, ?_, rfl⟩
          have hi : isIdent c = true := by simp [isIdent, hc]
          have ha := tw_all isIdent (c :: r)
          have hnd : isDigit c = false := by
            simp only [isDigit, isLetter, decide_eq_true_eq, decide_eq_false_iff_not] at *; omega
          rw [List.takeWhile_cons, if_pos hi] at hw hl ha ⊢
          simp only [isName, hnd, ha, Bool.not_eq_true] at *
          simp only [hw]
          simp at hl ⊢
          omega
    · split at h
      · rename_i hc hd
        split at h
        · cases h
        · rename_i hn
          have key : numV ((c :: r).takeWhile isDigit) = some (numVal ((c :: r).takeWhile isDigit)) := by
            unfold numV
            rw [if_neg]
            have ha := tw_all isDigit (c :: r)
            rw [List.takeWhile_cons, if_pos hd] at hn ha ⊢
            rintro (h | h | h | h)
            · cases h
            · exact hn (.inl ⟨h.1, by simpa using h.2⟩)
            · rw [ha] at h; cases h
            · exact hn (.inr h)
          split at h
          · split at h
            · cases h
            · cases h; exact .inr (.inr (.inl ⟨rfl, key⟩))
          · cases h; exact .inr (.inr (.inl ⟨rfl, key⟩))
      · split at h
        · rename_i hs
          cases h; exact .inr (.inr (.inr ⟨rfl, by show isSign _ = true; unfold isSign; rw [hs]; rfl, rfl⟩))
        · split at h
          · rename_i hs
            cases h; exact .inr (.inr (.inr ⟨rfl, by simp [isSign, hs], rfl⟩))
          · cases h
end LexS

