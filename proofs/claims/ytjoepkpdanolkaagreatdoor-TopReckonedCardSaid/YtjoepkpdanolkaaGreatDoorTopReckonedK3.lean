/- A part of the proof: contracts of functions and plain laws; each theorem says its own conditions. -/
import Derived.Test.YtjoepkpdanolkaaGreatDoorTopReckonedK2
import Derived.Test.YtjoepkpdanolkaaGreatDoorTopReckonedK1
set_option linter.unusedVariables false
set_option linter.unusedSimpArgs false
/- The engine: bits and shifts; maps of numbers; what a callee owns and changes, as one piece. -/
namespace Sx
open Go Go.RowKit
section
variable {P : Program} {n : Fr} {L : List Oper} {Q : Exit → Act → World → Prop} {kn : Kn} {w w0 : World} {M : List Nat} {hs : List Res} {rest : List Oper}
variable {d ty : Nat} {pos : String} {aft : Array Edge} {g : Option (Nat × Bool)}
variable {N : Act → World → Prop}

/-- a loop whose round never comes to its end -/
theorem vc_once {c : Code} (h : vcC P n c (Exit.then (fun _ _ => False) Q) kn w) : vcC P n (.loop c) Q kn w := by
  intro a ha
  refine Go.wp_loop_ghost (fun k a' w' => k = 0 ∧ a' = a ∧ w' = w) 0 ⟨rfl, rfl, rfl⟩ ?_
  rintro k a' w' ⟨rfl, rfl, rfl⟩
  refine Go.wp_mono (h a' ha) ?_
  intro e a2 w2 hq
  cases e with
  | normal => exact hq.elim
  | exit id => exact hq
  | goto l => exact hq
  | ret => exact hq
  | panic ch => exact hq
  | outgrown => exact hq
/-! ### bits and shifts -/
theorem y_and {T U : Nat} {x y : Operand} {p q r : Int} {k : IntKind} (hx : evO kn x = some (.int k p)) (hy : evO kn y = some (.int k q)) (hr : k.wrap ((BitVec.ofInt k.bits p) &&& (BitVec.ofInt k.bits q)).toNat = r) :
    Y P n kn w ⟨some d, .binOp .and T x y U, ty, pos, aft, g⟩ (.int k r) := y_bo hx hy (by subst hr; simp [eqGuard, binOp, Op.intBits])
theorem y_or {T U : Nat} {x y : Operand} {p q r : Int} {k : IntKind} (hx : evO kn x = some (.int k p)) (hy : evO kn y = some (.int k q)) (hr : k.wrap ((BitVec.ofInt k.bits p) ||| (BitVec.ofInt k.bits q)).toNat = r) :
    Y P n kn w ⟨some d, .binOp .or T x y U, ty, pos, aft, g⟩ (.int k r) := y_bo hx hy (by subst hr; simp [eqGuard, binOp, Op.intBits])
theorem y_xor {T U : Nat} {x y : Operand} {p q r : Int} {k : IntKind} (hx : evO kn x = some (.int k p)) (hy : evO kn y = some (.int k q)) (hr : k.wrap ((BitVec.ofInt k.bits p) ^^^ (BitVec.ofInt k.bits q)).toNat = r) :
    Y P n kn w ⟨some d, .binOp .xor T x y U, ty, pos, aft, g⟩ (.int k r) := y_bo hx hy (by subst hr; simp [eqGuard, binOp, Op.intBits])
theorem y_shl {T U : Nat} {x y : Operand} {p q r : Int} {k k' : IntKind} (hx : evO kn x = some (.int k p)) (hy : evO kn y = some (.int k' q)) (h0 : 0 ≤ q) (hr : k.wrap (p * 2 ^ (min q.toNat k.bits)) = r) :
    Y P n kn w ⟨some d, .binOp .shl T x y U, ty, pos, aft, g⟩ (.int k r) := y_bo hx hy (by subst hr; simp [eqGuard, binOp, Op.shift, Int.not_lt.2 h0])
theorem y_shr {T U : Nat} {x y : Operand} {p q r : Int} {k k' : IntKind} (hx : evO kn x = some (.int k p)) (hy : evO kn y = some (.int k' q)) (h0 : 0 ≤ q) (hr : p.fdiv (2 ^ (min q.toNat k.bits)) = r) :
    Y P n kn w ⟨some d, .binOp .shr T x y U, ty, pos, aft, g⟩ (.int k r) := y_bo hx hy (by subst hr; simp [eqGuard, binOp, Op.shift, Int.not_lt.2 h0])
theorem y_quoz {T U : Nat} {x y : Operand} {p q r : Int} {k : IntKind} (hx : evO kn x = some (.int k p)) (hy : evO kn y = some (.int k q)) (h0 : ¬ q = 0) (hr : k.wrap (p.tdiv q) = r) :
    Y P n kn w ⟨some d, .binOp .quo T x y U, ty, pos, aft, g⟩ (.int k r) := y_bo hx hy (by subst hr; simp [eqGuard, binOp, Op.intDiv, h0])

/-! ### a map whose entries are known, of words: v := m[s] -/
theorem e_lkF1 (st : St w0 M hs w) (i : Nat) {T k e b : Nat} {x y : Operand} {s : Wd} {z : Value} {kvs : List (Wd × Value)} (hw : gd L kn g = some true) (hd : okDst n (some d) = true) (hx : evO kn x = some (.map (some b))) (hy : evO kn y = some (str s))
    (hi : nth hs i = some (.blk b (mapF kvs))) (ht : P.underlying T = some (.map k e)) (hk : P.underlying k = some .string) (hz : ∀ w, (zeroValue e).run P w = .ok z w)
    (next : vN n N ((d, (getF kvs s).getD z) :: kn) w) : vS P n L Q (⟨some d, .lookup T x y false, ty, pos, aft, g⟩) N kn w := by
  have hb : w.heap[b]? = some (mapF kvs) := st.res hi
  obtain ⟨m, hf⟩ := findNow_F s kvs 0 0
  refine e_run (v := (getF kvs s).getD z) (w' := w) hw hd (fun a ha => ?_) next
  have hfk := findKey_str (P := P) hk hf w
  have hrun : (Instr.lookup T (.map (some b)) (str s) false).run P w = .ok ((getF kvs s).getD z) w := by
    cases hg : getF kvs s with
    | none =>
      rw [hg] at hfk
      simp [Instr.lookup, getObj, Sem.run_bind, underlying, Sem.run, ht, hb, Result.andThen, checkKey_str hk, hfk, hz]
    | some u =>
      rw [hg] at hfk
      simp [Instr.lookup, getObj, Sem.run_bind, underlying, Sem.run, ht, hb, Result.andThen, checkKey_str hk, hfk]
  simp only [execOp, ha.ev hx, ha.ev hy, Sem.run_bind, hrun, Result.andThen_ok]; rfl

/-! ### a map whose entries are known, of numbers -/
abbrev iV (i : Int) : Value := .int .i64 i
abbrev entI (kvs : List (Int × Value)) : List MapEntry := kvs.zipIdx.map fun p => { key := iV p.1.1, val := p.1.2, born := p.2 }
abbrev mapI (kvs : List (Int × Value)) : Obj := .map (entI kvs).toArray kvs.length
def getI : List (Int × Value) → Int → Option Value
  | [], _ => none
  | (k, v) :: r, s => if s = k then some v else getI r s
theorem findNow_I (s : Int) : ∀ (kvs : List (Int × Value)) (j i : Nat), ∃ m, Instr.findNow (.int .i64) (iV s) ((kvs.zipIdx j).map fun p => ({ key := iV p.1.1, val := p.1.2, born := p.2 } : MapEntry)) i = some ((getI kvs s).map fun v => (m, v))
  | [], j, i => ⟨0, rfl⟩
  | (k, v) :: r, j, i => by
    by_cases hk : s = k
    · subst hk
      exact ⟨i, by simp [Instr.findNow, Instr.sameNow, getI]⟩
    · obtain ⟨m, hm⟩ := findNow_I s r (j + 1) (i + 1)
      refine ⟨m, ?_⟩
      have hb : (s == k) = false := by simpa using hk
      simp only [List.zipIdx_cons, List.map_cons, Instr.findNow, Instr.sameNow, hb, getI, hk, if_true, if_false]
      exact hm
theorem checkKey_int {k : Nat} (hk : P.underlying k = some (.int .i64)) (em : Bool) (s : Int) (w : World) : (Instr.checkKey em 10000 k (iV s)).run P w = .ok () w := by
  show (Instr.checkKey em (9999 + 1) k (iV s)).run P w = _
  unfold Instr.checkKey
  simp [Sem.run_bind, underlying, Sem.run, hk, Result.andThen]
theorem findKey_int {k : Nat} (hk : P.underlying k = some (.int .i64)) {s : Int} {es : List MapEntry} {r : Option (Nat × Value)} (h : Instr.findNow (.int .i64) (iV s) es 0 = some r) (w : World) : (Instr.findKey k (iV s) es).run P w = .ok r w := by
  simp [Instr.findKey, Sem.run_bind, underlying, Sem.run, hk, Result.andThen, h]
theorem e_mkI (st : St w0 M hs w) {T : Nat} (hw : gd L kn g = some true) (hd : okDst n (some d) = true)
    (next : ∀ b w', w0.heap.size ≤ b → St w0 M (.blk b (mapI []) :: hs) w' → vN n N ((d, .map (some b)) :: kn) w') : vS P n L Q (⟨some d, .makeMap T none, ty, pos, aft, g⟩) N kn w :=
  e_run (v := .map (some w.heap.size)) (w' := w.alloc (.map #[] 0)) hw hd (fun a ha => by
    simp only [execOp, Option.map_none]; rfl) (next _ _ st.chg.size (st.pushR (Chg.alloc w _) (heap_alloc w _) (by simp [Res.at?])))
theorem run_upI {T k e b : Nat} {s : Int} {v : Value} {kvs : List (Int × Value)} (hb : w.heap[b]? = some (mapI kvs)) (ht : P.underlying T = some (.map k e)) (hk : P.underlying k = some (.int .i64)) (hno : getI kvs s = none) :
    (Instr.mapUpdate T (.map (some b)) (iV s) v).run P w = .ok () (ChangeMaps.setBlock w b (mapI (kvs ++ [(s, v)]))) ∧ Chg [b] w (ChangeMaps.setBlock w b (mapI (kvs ++ [(s, v)]))) ∧ (ChangeMaps.setBlock w b (mapI (kvs ++ [(s, v)]))).heap[b]? = some (mapI (kvs ++ [(s, v)])) := by
  obtain ⟨m, hf⟩ := findNow_I s kvs 0 0
  rw [hno] at hf
  simp only [Option.map_none] at hf
  obtain ⟨q1, q2, q3⟩ := setObj_chg (P := P) (o' := mapI (kvs ++ [(s, v)])) hb (by simp)
  have hent : (entI kvs).toArray.push { key := iV s, val := v, born := kvs.length } = (entI (kvs ++ [(s, v)])).toArray := by
    simp [entI, List.zipIdx_append]
  have hfk := findKey_int (P := P) hk hf w
  refine ⟨?_, q2, q3⟩
  have e1 : (kvs ++ [(s, v)]).length = kvs.length + 1 := by simp
  simp only [mapI, ← hent, e1] at q1 ⊢
  simp [Instr.mapUpdate, getObj, Sem.run_bind, underlying, Sem.run, ht, hb, Result.andThen, checkKey_int hk, hfk]
  simpa using q1
theorem e_muI (st : St w0 M hs w) (i : Nat) {T k e b : Nat} {x y z : Operand} {s : Int} {v : Value} {kvs : List (Int × Value)} (hw : gd L kn g = some true) (hx : evO kn x = some (.map (some b))) (hy : evO kn y = some (iV s)) (hv : evO kn z = some v)
    (hi : nth hs i = some (.blk b (mapI kvs))) (hm : b ∈ M ∨ w0.heap.size ≤ b) (ht : P.underlying T = some (.map k e)) (hk : P.underlying k = some (.int .i64)) (hno : getI kvs s = none)
    (next : ∀ w', St w0 M (setNth hs i (.blk b (mapI (kvs ++ [(s, v)])))) w' → vN n N kn w') : vS P n L Q (⟨none, .mapUpdate T x y z, ty, pos, aft, g⟩) N kn w := by
  obtain ⟨r, q2, q3⟩ := run_upI (P := P) (v := v) (st.res hi) ht hk hno
  exact e_do (w' := _) hw rfl (fun a ha => by simp only [execOp, ha.ev hx, ha.ev hy, ha.ev hv, Sem.run_bind, r, Result.andThen_ok]; rfl) (next _ (st.turn hi rfl rfl q2 hm q3))
theorem e_inI (st : St w0 M hs w) (i : Nat) {T k e b : Nat} {x y z : Operand} {s : Int} {v : Value} {kvs : List (Int × Value)} (hw : gd L kn g = some true) (hx : evO kn x = some (.map (some b))) (hy : evO kn y = some (iV s)) (hv : evO kn z = some v)
    (hi : nth hs i = some (.blk b (mapI kvs))) (hm : b ∈ M ∨ w0.heap.size ≤ b) (ht : P.underlying T = some (.map k e)) (hk : P.underlying k = some (.int .i64)) (hno : getI kvs s = none)
    (next : ∀ w', St w0 M (setNth hs i (.blk b (mapI (kvs ++ [(s, v)])))) w' → vN n N kn w') : vS P n L Q (⟨none, .insert T x y z, ty, pos, aft, g⟩) N kn w := by
  obtain ⟨r, q2, q3⟩ := run_upI (P := P) (v := v) (st.res hi) ht hk hno
  exact e_do (w' := _) hw rfl (fun a ha => by simp only [execOp, ha.ev hx, ha.ev hy, ha.ev hv, Sem.run_bind, r, Result.andThen_ok]; rfl) (next _ (st.turn hi rfl rfl q2 hm q3))
theorem e_lkI1 (st : St w0 M hs w) (i : Nat) {T k e b : Nat} {x y : Operand} {s : Int} {z : Value} {kvs : List (Int × Value)} (hw : gd L kn g = some true) (hd : okDst n (some d) = true) (hx : evO kn x = some (.map (some b))) (hy : evO kn y = some (iV s))
    (hi : nth hs i = some (.blk b (mapI kvs))) (ht : P.underlying T = some (.map k e)) (hk : P.underlying k = some (.int .i64)) (hz : ∀ w, (zeroValue e).run P w = .ok z w)
    (next : vN n N ((d, (getI kvs s).getD z) :: kn) w) : vS P n L Q (⟨some d, .lookup T x y false, ty, pos, aft, g⟩) N kn w := by
  have hb : w.heap[b]? = some (mapI kvs) := st.res hi
  obtain ⟨m, hf⟩ := findNow_I s kvs 0 0
  refine e_run (v := (getI kvs s).getD z) (w' := w) hw hd (fun a ha => ?_) next
  have hfk := findKey_int (P := P) hk hf w
  have hrun : (Instr.lookup T (.map (some b)) (iV s) false).run P w = .ok ((getI kvs s).getD z) w := by
    cases hg : getI kvs s with
    | none =>
      rw [hg] at hfk
      simp [Instr.lookup, getObj, Sem.run_bind, underlying, Sem.run, ht, hb, Result.andThen, checkKey_int hk, hfk, hz]
    | some u =>
      rw [hg] at hfk
      simp [Instr.lookup, getObj, Sem.run_bind, underlying, Sem.run, ht, hb, Result.andThen, checkKey_int hk, hfk]
  simp only [execOp, ha.ev hx, ha.ev hy, Sem.run_bind, hrun, Result.andThen_ok]; rfl

/-! ### what a callee owns and changes, as one piece -/
/-- 'φ' holds, and hangs on the blocks 'S' alone -/
def Reg (S : List Nat) (φ : World → Prop) (w : World) : Prop := φ w ∧ (∀ k ∈ S, k < w.heap.size) ∧ Loc S φ
/-- from 'S' with something to 'S'' with 'φ'' -/
def RegP (S S' : List Nat) (φ' : World → Prop) (w w' : World) : Prop := Reg S' φ' w' ∧ Chg S w w' ∧ ∀ k ∈ S', k ∈ S ∨ w.heap.size ≤ k
/-- the piece as a resource of a caller -/
def reg (M : List Nat) (base : Nat) (S : List Nat) (φ : World → Prop) : Res := .tree S fun w => φ w ∧ ∀ k ∈ S, k ∈ M ∨ base ≤ k
variable {w' : World} {S S' : List Nat} {φ φ' : World → Prop}
theorem reg_holds {base' base : Nat} (h : Reg S φ w) (hm : ∀ k ∈ S, k ∈ M ∨ base ≤ k) : (reg M base S φ).holds base' w :=
  ⟨⟨h.1, hm⟩, h.2.1, fun a b hs hk hp => ⟨h.2.2 a b hs hk hp.1, hp.2⟩⟩
theorem St.regGet (st : St w0 M hs w) {i base : Nat} {M' : List Nat} (hi : nth hs i = some (reg M' base S φ)) : Reg S φ w := by
  obtain ⟨⟨h1, h2⟩, h3, h4⟩ := st.res hi
  exact ⟨h1, h3, fun a b hs hk hp => (h4 a b hs hk ⟨hp, h2⟩).1⟩
theorem St.regInit (h : Reg S φ w) : St w S [reg S w.heap.size S φ] w :=
  ⟨Chg.refl _ _, List.pairwise_singleton _ _, by
    intro r hr
    simp only [List.mem_singleton] at hr
    subst hr
    exact reg_holds h fun k hk => .inl hk⟩
theorem St.regP (st : St w0 M hs w) {i : Nat} (hi : nth hs i = some (reg M w0.heap.size S φ)) (p : RegP S S' φ' w w') : St w0 M (setNth hs i (reg M w0.heap.size S' φ')) w' := by
  obtain ⟨⟨h1, h2⟩, -⟩ := st.res hi
  obtain ⟨p1, p2, p3⟩ := p
  refine st.swap hi p2 (fun k hk => hk) h2 p3 (reg_holds p1 fun k hk => ?_)
  rcases p3 k hk with h | h
  · exact h2 k h
  · exact .inr (Nat.le_trans st.chg.size h)
theorem St.regDone {i : Nat} (st : St w0 S hs w) (hi : nth hs i = some (reg S w0.heap.size S' φ')) : RegP S S' φ' w0 w :=
  ⟨st.regGet hi, st.chg, (st.res hi).1.2⟩
/-! ### a row of things of 'size' cells that the callee does not own: its block may change -/
def frnZ (M : List Nat) (base E size : Nat) (v : Value) (n : Nat) (xs : List Value) : Res := .tree v.ownBlock.toList fun w => w.ownsRow 0 E size v n xs ∧ ∀ k, v.ownBlock = some k → k ∈ M ∨ base ≤ k
theorem loc_ownsZ (E size n : Nat) (v : Value) (xs : List Value) : Loc v.ownBlock.toList fun w => w.ownsRow 0 E size v n xs := by
  intro w w' hs hk ⟨h1, h2⟩
  refine ⟨h1, h2.imp id fun ⟨g, cap, cur, e, hb, hc, hr⟩ => ⟨g, cap, cur, e, hb, ?_, hr⟩⟩
  rw [hk g (by rw [e]; simp [Value.ownBlock])]; exact hc
theorem frnZ_holds {base' base E size n : Nat} {v : Value} {xs : List Value} (ho : w.ownsRow 0 E size v n xs) (hm : ∀ k, v.ownBlock = some k → k ∈ M ∨ base ≤ k) : (frnZ M base E size v n xs).holds base' w :=
  ⟨⟨ho, hm⟩, fun k hk => (World.ownsRow.lt ho k (by simpa using hk)).2, fun a b hs hk h => ⟨loc_ownsZ E size n v xs a b hs hk h.1, h.2⟩⟩
theorem St.appZ (st : St w0 M hs w) {i E size n n' : Nat} {v v' : Value} {xs xs' : List Value} (hi : nth hs i = some (frnZ M w0.heap.size E size v n xs)) (hg : w.grownBy w' v.ownBlock)
    (hown : w'.ownsRow 0 E size v' n' xs') (hat : ∀ k, v'.ownBlock = some k → v.ownBlock = some k ∨ w.heap.size ≤ k) :
    St w0 M (setNth hs i (frnZ M w0.heap.size E size v' n' xs')) w' := by
  obtain ⟨⟨h1, h2⟩, -⟩ := st.res hi
  refine st.swap hi (Chg.of_grownByO hg) (by simp [Res.at?, frnZ]) (fun k hk => h2 k (by simpa using hk)) (fun k hk => ?_) (frnZ_holds hown fun k hk => ?_)
  · simp only [Res.at?, frnZ, Option.mem_toList] at hk ⊢
    exact hat k hk
  · rcases hat k hk with h | h
    · exact h2 k h
    · exact .inr (Nat.le_trans st.chg.size h)
theorem slice_formZ {base E size len : Nat} {v : Value} {xs : List Value} (ho : w.ownsRow base E size v len xs) : ∃ oa cap, v = .slice oa len cap := by
  rcases ho.2 with ⟨rfl, h0⟩ | ⟨g, cap, cur, rfl, _⟩
  · exact ⟨none, 0, by rw [h0]⟩
  · exact ⟨_, _, rfl⟩
/-- append(v, x) to a row that is another's -/
theorem e_appZ (st : St w0 M hs w) (i j : Nat) {T E size bytes m len c b : Nat} {x y : Operand} {v z : Value} {xs l : List Value} {fz : Nat × Nat} {ti : TypeInfo} (hw : gd L kn g = some true) (hd : okDst n (some d) = true)
    (hx : evO kn x = some v) (hy : evO kn y = some (.slice (some ⟨b, 0, none⟩) m c)) (hi : nth hs i = some (frnZ M w0.heap.size E size v len xs)) (hj : nth hs j = some (.blk b (.cells l.toArray E fz)))
    (ht : P.underlying T = some (.slice E)) (hinfo : P.info? E = some ti) (hz : ti.zero = some z) (hsize : ti.size = size) (hby : ti.bytes = bytes) (hzs : z.cells.size = size) (hsz : Nat.blt 0 size = true)
    (hl : l.length = m * size) (h1 : allOne l = true) (hm : Nat.blt 0 m = true) (h63 : len + m ≤ maxLen) (hbytes : (len + m) * bytes ≤ 140737488355328)
    (next : ∀ oa cap w', St w0 M (setNth hs i (frnZ M w0.heap.size E size (.slice oa (len + m) cap) (len + m) (xs ++ l))) w' → vN n N ((d, .slice oa (len + m) cap) :: kn) w') :
    vS P n L Q ⟨some d, .call ⟨.builtin .append, #[x, y], #[T, T]⟩, ty, pos, aft, g⟩ N kn w := by
  have hb : w.heap[b]? = some (.cells l.toArray E fz) := st.res hj
  have hm' : 0 < m := by simpa [Nat.blt_eq] using hm
  obtain ⟨v', w', hr, hown, hg, hnil, hat⟩ := run_append_own_at (P := P) w 0 T ty E ti z size bytes ht hinfo hz hsize hby hzs (by simpa [Nat.blt_eq] using hsz) v len xs (st.res hi).1.1 ⟨b, 0, none⟩ m c l hl
    (fun k u hk => by rw [addr_add]; exact cell_blk hb (by rw [nth_eq]; simpa using hk)) (allOne_spec h1) h63 hbytes (Nat.zero_le _)
  obtain ⟨oa, cap, rfl⟩ := slice_formZ hown
  refine e_bi [v, .slice (some ⟨b, 0, none⟩) m c] hw hd (by simp [hx, hy]) (w' := w') (fun cs => ?_) (next oa cap w' (st.appZ hi hg hown (fun k hk => by
    rcases hat with h | h
    · rw [h] at hk; exact .inl hk
    · rw [h] at hk; simp at hk; exact .inr (by omega))))
  simp only [builtin, Sem.run_bind, List.toArray, hr]
  rfl
/-- a store into a row that is another's -/
theorem e_stZ (st : St w0 M hs w) (i : Nat) {x y : Operand} {T b off E size len cap : Nat} {xs : List Value} {v : Value} {vs : List Value} (hw : gd L kn g = some true) (hx : evO kn x = some (.pointer (some ⟨b, off, none⟩)))
    (hy : evO kn y = some v) (hv : v.cells.toList = vs) (h1 : allOne vs = true) (hsz : ∀ w, (Go.sizeOf T).run P w = .ok vs.length w)
    (hi : nth hs i = some (frnZ M w0.heap.size E size (.slice (some ⟨b, 0, none⟩) len cap) len xs)) (hlt : off + vs.length ≤ xs.length)
    (next : ∀ w', St w0 M (setNth hs i (frnZ M w0.heap.size E size (.slice (some ⟨b, 0, none⟩) len cap) len (xs.take off ++ vs ++ xs.drop (off + vs.length)))) w' → vN n N kn w') : vS P n L Q (⟨none, .store T x y, ty, pos, aft, g⟩) N kn w := by
  obtain ⟨w', xs', hr, hh, hg', hl⟩ := run_storeCells_own (P := P) 0 E size len cap b vs xs off 0 w (st.res hi).1.1 (by simpa using hlt) (allOne_spec h1)
  have hl' : xs' = xs.take off ++ vs ++ xs.drop (off + vs.length) := by simpa using hl
  subst hl'
  refine e_do hw rfl (w' := w') (fun a ha => ?_) (next w' (st.appZ hi hg' hh (fun k hk => .inl hk)))
  simp only [execOp, ha.ev hx, ha.ev hy]
  have hsz' : v.cells.size = vs.length := by rw [← hv]; simp
  have key : (storeVar T ⟨b, off, none⟩ v).run P w = .ok () w' := by
    simp only [storeVar, Sem.run_bind, hsz, Result.andThen_ok, hsz', ne_eq, not_true_eq_false, ↓reduceIte, hv, hr]
  simp only [Instr.storeAt, Instr.sureAddr, Sem.run_bind, Sem.run_pure, Result.andThen_ok, key]
end
/-! ### what is held, piece by piece -/
theorem St.add {w0 w : World} {M : List Nat} {hs : List Res} (st : St w0 M hs w) {r : Res} (hr : r.holds w0.heap.size w) (hd : ∀ x ∈ hs, ∀ k ∈ r.at?, k ∉ x.at?) : St w0 M (r :: hs) w :=
  ⟨st.chg, List.pairwise_cons.2 ⟨hd, st.nodup⟩, fun x hx => by
    rcases List.mem_cons.1 hx with rfl | hx
    · exact hr
    · exact st.here x hx⟩
theorem St.addB {w0 w : World} {M : List Nat} {hs : List Res} (st : St w0 M hs w) {b : Nat} {o : Obj} (h : w.heap[b]? = some o) (hd : ∀ x ∈ hs, b ∉ x.at?) : St w0 M (.blk b o :: hs) w :=
  st.add (r := .blk b o) h (fun x hx k hk => by simp [Res.at?] at hk; subst hk; exact hd x hx)
theorem blk_at {b : Nat} {o : Obj} : (Res.blk b o).at? = [b] := rfl
theorem frnZ_at {M : List Nat} {base E size n b len cap : Nat} {xs : List Value} : (frnZ M base E size (.slice (some ⟨b, 0, none⟩) len cap) n xs).at? = [b] := rfl
theorem St.swapHead2 {w0 w w' : World} {M : List Nat} {hs : List Res} {r s r' s' : Res} {C : List Nat} (st : St w0 M (r :: s :: hs) w) (c : Chg C w w') (hC : ∀ k ∈ C, k ∈ r.at? ∨ k ∈ s.at?) (hm : ∀ k ∈ C, k ∈ M ∨ w0.heap.size ≤ k)
    (h1 : ∀ k ∈ r'.at?, k ∈ r.at?) (h2 : ∀ k ∈ s'.at?, k ∈ s.at?) (hr : r'.holds w0.heap.size w') (hs' : s'.holds w0.heap.size w') : St w0 M (r' :: s' :: hs) w' := by
  obtain ⟨n1, n2⟩ := List.pairwise_cons.1 st.nodup
  obtain ⟨n3, n4⟩ := List.pairwise_cons.1 n2
  refine ⟨st.chg.trans' c hm, List.pairwise_cons.2 ⟨fun x hx k hk => ?_, List.pairwise_cons.2 ⟨fun x hx k hk => n3 x hx k (h2 k hk), n4⟩⟩, fun x hx => ?_⟩
  · rcases List.mem_cons.1 hx with rfl | hx
    · exact fun hk' => n1 s (.head _) k (h1 k hk) (h2 k hk')
    · exact n1 x (.tail _ hx) k (h1 k hk)
  · rcases List.mem_cons.1 hx with rfl | hx
    · exact hr
    · rcases List.mem_cons.1 hx with rfl | hx
      · exact hs'
      · refine Res.holds_chg (st.here x (.tail _ (.tail _ hx))) (fun k hk => st.lt (.tail _ (.tail _ hx)) hk) c (fun k hk hk' => ?_)
        rcases hC k hk' with h | h
        · exact n1 x (.tail _ hx) k h hk
        · exact n3 x hx k h hk
theorem St.pushBB {w0 w w' : World} {M : List Nat} {hs : List Res} (st : St w0 M hs w) (c : Chg [] w w') {a b : Nat} {o p : Obj} (ha : w'.heap[a]? = some o) (hb : w'.heap[b]? = some p) (hla : w.heap.size ≤ a) (hlb : w.heap.size ≤ b) (hne : a ≠ b) : St w0 M (.blk a o :: .blk b p :: hs) w' := by
  have st1 := st.pushR c (r := .blk b p) hb (by simpa [blk_at] using hlb)
  refine st1.addB ha (fun x hx => ?_)
  rcases List.mem_cons.1 hx with rfl | hx
  · simpa [blk_at] using hne
  · exact fun hk => absurd (st.lt hx hk) (by omega)
theorem nodupAt : ∀ {hs : List Res}, Apart hs → (∀ r ∈ hs, r.at?.Nodup) → (hs.flatMap Res.at?).Nodup
  | [], _, _ => List.nodup_nil
  | r :: hs, h, hn => by
    obtain ⟨h1, h2⟩ := List.pairwise_cons.1 h
    rw [List.flatMap_cons, List.nodup_append]
    refine ⟨hn r (.head _), nodupAt h2 (fun x hx => hn x (.tail _ hx)), fun a ha b hb e => ?_⟩
    subst e
    obtain ⟨x, hx, hax⟩ := List.mem_flatMap.1 hb
    exact h1 x hx a ha hax
theorem own_nodup (v : Value) : v.ownBlock.toList.Nodup := by cases v.ownBlock <;> simp
/-! ### what is known if .. -/
/-- a block that is known if 'p' -/
def blkIf (p : Prop) (b : Nat) (o : Obj) : Res := .tree [b] fun w => p → w.heap[b]? = some o
theorem blkIf_holds {p : Prop} {b base : Nat} {o : Obj} {w : World} (h : w.heap[b]? = some o) : (blkIf p b o).holds base w :=
  ⟨fun _ => h, fun k hk => by simp at hk; subst hk; exact (Array.getElem?_eq_some_iff.1 h).1, fun w w' hs hk h hp => (hk b (by simp)).trans (h hp)⟩
theorem blkIf_no {p : Prop} {b base : Nat} {o : Obj} {w : World} (hp : ¬ p) (h : b < w.heap.size) : (blkIf p b o).holds base w :=
  ⟨fun q => absurd q hp, fun k hk => by simp at hk; subst hk; exact h, fun w w' hs hk h hp => (hk b (by simp)).trans (h hp)⟩
theorem St.mkIf {w0 w : World} {M : List Nat} {hs : List Res} {b : Nat} {o : Obj} (st : St w0 M (.blk b o :: hs) w) (p : Prop) : St w0 M (blkIf p b o :: hs) w :=
  st.turn0 (fun k hk => hk) (blkIf_holds (st.res (i := 0) rfl))

theorem St.unIf {w0 w : World} {M : List Nat} {hs : List Res} {i b : Nat} {o : Obj} {p : Prop} (st : St w0 M hs w) (hi : nth hs i = some (blkIf p b o)) (hp : p) : St w0 M (setNth hs i (.blk b o)) w :=
  st.swap (C := []) hi (Chg.refl _ _) (by simp) (by simp) (fun k hk => .inl hk) ((st.res hi).1 hp)
theorem St.toIf {w0 w : World} {M : List Nat} {hs : List Res} {i b : Nat} {o : Obj} (p : Prop) (st : St w0 M hs w) (hi : nth hs i = some (.blk b o)) : St w0 M (setNth hs i (blkIf p b o)) w :=
  st.swap (C := []) hi (Chg.refl _ _) (by simp) (by simp) (fun k hk => .inl hk) (blkIf_holds (st.res hi))
theorem St.noIf {w0 w : World} {M : List Nat} {hs : List Res} {i b : Nat} {o o' : Obj} {p : Prop} (st : St w0 M hs w) (hi : nth hs i = some (.blk b o')) (hp : ¬ p) : St w0 M (setNth hs i (blkIf p b o)) w :=
  st.swap (C := []) hi (Chg.refl _ _) (by simp) (by simp) (fun k hk => .inl hk) (blkIf_no hp (Array.getElem?_eq_some_iff.1 (st.res hi)).1)
/-- a callee has written on the block of the resource at 'i', which is not looked at again -/
theorem St.lostIf {w0 w w' : World} {M : List Nat} {hs : List Res} {i b : Nat} {o o' : Obj} {p : Prop} (st : St w0 M hs w) (hi : nth hs i = some (.blk b o')) (c : Chg [b] w w') (hm : b ∈ M ∨ w0.heap.size ≤ b) (hp : ¬ p) : St w0 M (setNth hs i (blkIf p b o)) w' :=
  st.swap (C := [b]) hi c (by simp [Res.at?]) (by simpa using hm) (fun k hk => .inl hk) (blkIf_no hp (Nat.lt_of_lt_of_le (Array.getElem?_eq_some_iff.1 (st.res hi)).1 c.size))
end Sx


/- What the parser computes, in plain words: no program in sight. -/
namespace ParS
open Sx LexS

/-- a rule that a text breaks, and where: (place, rule) -/
abbrev Flt := Nat × Nat
abbrev PR (α : Type) := Except Flt (α × List Tok)
def tok0 : Tok := ⟨0, [], 0, 0⟩
def here (ts : List Tok) : Tok := match ts with | t :: _ => t | [] => tok0
/-- the place of what stands here; 'e': the text's length -/
def atT (e : Nat) (ts : List Tok) : Nat := match ts with | t :: _ => t.at_ | [] => e
def isT (s : List UInt8) (ts : List Tok) : Bool := decide ((here ts).text = s) && (decide ((here ts).kind = 2) || decide ((here ts).kind = 4))
def fail {α : Type} (e rule : Nat) (ts : List Tok) : Except Flt α := .error (atT e ts, rule)
def want (e : Nat) (s : List UInt8) (ts : List Tok) : Except Flt (List Tok) := if isT s ts = true then .ok ts.tail else fail e 2 ts
def nameP (e : Nat) (ts : List Tok) : PR Tok := if (here ts).kind = 1 then .ok (here ts, ts.tail) else fail e 2 ts
def declP (e : Nat) (ts : List Tok) : PR Dc := match nameP e ts with
  | .error f => .error f
  | .ok (t, r) => .ok (⟨t.text, 0, (t.at_ : Int)⟩, r)
/-- a number behind a sign, or not -/
def wordP (e : Nat) (minus : Bool) (ts : List Tok) : PR Int := if (here ts).kind = 3 then .ok (if minus = true then -((here ts).word : Int) else ((here ts).word : Int), ts.tail) else fail e 2 ts
def initP (e : Nat) (ts : List Tok) : PR Dc := match nameP e ts with
  | .error f => .error f
  | .ok (t, r) => if isT [61] r = true then
      (match wordP e (isT [45] r.tail) (if isT [45] r.tail = true then r.tail.tail else r.tail) with
        | .error f => .error f
        | .ok (x, r') => .ok (⟨t.text, x, (t.at_ : Int)⟩, r'))
    else .ok (⟨t.text, 0, (t.at_ : Int)⟩, r)
/-- one or more, with commas between and a ; behind -/
def listP (e : Nat) (one : List Tok → PR Dc) : Nat → List Tok → PR (List Dc)
  | 0, ts => .error (0, 0)
  | n + 1, ts => match one ts with
    | .error f => .error f
    | .ok (d, r) => if isT [44] r = true then (match listP e one n r.tail with
        | .error f => .error f
        | .ok (l, r') => .ok (d :: l, r'))
      else match want e [59] r with
        | .error f => .error f
        | .ok r' => .ok ([d], r')

/-! ### expressions -/
/-- an operator of two that stands here -/
def opT (t : Tok) : Option Nat := if t.kind = 4 then findO t.text else none
/-- operators and what stands behind them -/
def flatE (u : List Tok → PR Ex) : Nat → List Tok → PR (List (Nat × Nat × Ex))
  | 0, ts => .error (0, 0)
  | n + 1, ts => match opT (here ts) with
    | none => .ok ([], ts)
    | some op => match u ts.tail with
      | .error f => .error f
      | .ok (x, r) => match flatE u n r with
        | .error f => .error f
        | .ok (l, r') => .ok ((op, (here ts).at_, x) :: l, r')
def binE (op a : Nat) (x y : Ex) : Ex := .mk 4 (op : Int) 0 [] [x, y] (a : Int)
abbrev Pend := Nat × Nat × Ex
/-- operators that wait and bind as strongly take their second side -/
def redu (all : Bool) (lv : Int) : List Pend → Ex → List Pend × Ex
  | [], x => ([], x)
  | (op, a, l) :: w, x => if all = true ∨ lv ≤ lvlO (op : Int) then redu all lv w (binE op a l x) else ((op, a, l) :: w, x)
def shunt : List Pend → List Pend → Ex → Ex
  | [], w, x => (redu true 0 w x).2
  | (op, a, y) :: r, w, x => shunt r ((op, a, (redu false (lvlO (op : Int)) w x).2) :: (redu false (lvlO (op : Int)) w x).1) y
def exprW (u : List Tok → PR Ex) (ts : List Tok) : PR Ex := match u ts with
  | .error f => .error f
  | .ok (x, r) => match flatE u (r.length + 1) r with
    | .error f => .error f
    | .ok (l, r') => .ok (shunt l [] x, r')
def leafP (e : Nat) (ts : List Tok) : PR Ex :=
  if (here ts).kind = 3 then .ok (.mk 1 0 ((here ts).word : Int) [] [] ((here ts).at_ : Int), ts.tail)
  else if (here ts).kind = 1 then .ok (.mk 2 0 0 (here ts).text [] ((here ts).at_ : Int), ts.tail)
  else fail e 2 ts
def innerT (ts : List Tok) : Bool := isT [45] ts || isT [33] ts || isT [40] ts
/-- 'm': how much deeper it may lie -/
def unaryP (e : Nat) : Nat → List Tok → PR Ex
  | 0, ts => if innerT ts = true then fail e 3 ts else leafP e ts
  | m + 1, ts => if innerT ts = true then
      (if (here ts).text = [40] then (match exprW (unaryP e m) ts.tail with
        | .error f => .error f
        | .ok (x, r) => match want e [41] r with
          | .error f => .error f
          | .ok r' => .ok (x, r'))
      else match unaryP e m ts.tail with
        | .error f => .error f
        | .ok (x, r) => .ok (.mk 3 (if (here ts).text = [33] then 18 else 17) 0 [] [x] ((here ts).at_ : Int), r))
    else leafP e ts
def exprP (e m : Nat) (ts : List Tok) : PR Ex := exprW (unaryP e m) ts

/-! ### statements -/
def condP (e : Nat) (ts : List Tok) : PR Ex := match want e [40] ts with
  | .error f => .error f
  | .ok r => match exprP e 64 r with
    | .error f => .error f
    | .ok (x, r1) => match want e [41] r1 with
      | .error f => .error f
      | .ok r2 => .ok (x, r2)
def exprSemi (e : Nat) (ts : List Tok) : PR Ex := match exprP e 64 ts with
  | .error f => .error f
  | .ok (x, r) => match want e [59] r with
    | .error f => .error f
    | .ok r' => .ok (x, r')
/-- what a swap's parentheses hold, and the ; -/
def swapP (e : Nat) (ts : List Tok) : PR (List UInt8 × Ex) := match want e [40] ts with
  | .error f => .error f
  | .ok r => match nameP e r with
    | .error f => .error f
    | .ok (t, r1) => match want e [44] r1 with
      | .error f => .error f
      | .ok r2 => match exprP e 64 r2 with
        | .error f => .error f
        | .ok (x, r3) => match want e [41] r3 with
          | .error f => .error f
          | .ok r4 => match want e [59] r4 with
            | .error f => .error f
            | .ok r5 => .ok ((t.text, x), r5)
def assignP (e : Nat) (a : Nat) (ts : List Tok) : PR Sm := match nameP e ts with
  | .error f => .error f
  | .ok (t, r) => match want e [61] r with
    | .error f => .error f
    | .ok r1 => if isT wSwap r1 = true then (match swapP e r1.tail with
        | .error f => .error f
        | .ok ((o, x), r2) => .ok (.mk 2 t.text o [x] [] [] (a : Int), r2))
      else match exprSemi e r1 with
        | .error f => .error f
        | .ok (x, r2) => .ok (.mk 1 t.text [] [x] [] [] (a : Int), r2)
/-- a word that a statement begins with -/
def formT (t : Tok) (s : List UInt8) : Bool := decide (t.text = s) && decide (t.kind = 2)
/-- a statement; 'blk': a block within -/
def stmtW (e : Nat) (blk : List Tok → PR (List Sm)) (ts : List Tok) : PR Sm :=
  if formT (here ts) wIf = true then (match condP e ts.tail with
    | .error f => .error f
    | .ok (x, r) => match blk r with
      | .error f => .error f
      | .ok (b, r1) => if isT wElse r1 = true then (match blk r1.tail with
          | .error f => .error f
          | .ok (l, r2) => .ok (.mk 3 [] [] [x] b l (atT e ts : Int), r2))
        else .ok (.mk 3 [] [] [x] b [] (atT e ts : Int), r1))
  else if formT (here ts) wWhile = true then (match condP e ts.tail with
    | .error f => .error f
    | .ok (x, r) => match blk r with
      | .error f => .error f
      | .ok (b, r1) => .ok (.mk 4 [] [] [x] b [] (atT e ts : Int), r1))
  else if formT (here ts) wLock = true then (match nameP e ts.tail with
    | .error f => .error f
    | .ok (t, r) => match blk r with
      | .error f => .error f
      | .ok (b, r1) => .ok (.mk 5 t.text [] [] b [] (atT e ts : Int), r1))
  else if formT (here ts) wPrint = true then (match exprSemi e ts.tail with
    | .error f => .error f
    | .ok (x, r) => .ok (.mk 6 [] [] [x] [] [] (atT e ts : Int), r))
  else if formT (here ts) wSkip = true then (match want e [59] ts.tail with
    | .error f => .error f
    | .ok r => .ok (.mk 7 [] [] [] [] [] (atT e ts : Int), r))
  else assignP e (atT e ts) ts
/-- statements up to the } , which is gone over -/
def restW (st : List Tok → PR Sm) : Nat → List Tok → PR (List Sm)
  | 0, ts => .error (0, 0)
  | n + 1, ts => if isT [125] ts = true then .ok ([], ts.tail) else match st ts with
    | .error f => .error f
    | .ok (s, r) => match restW st n r with
      | .error f => .error f
      | .ok (l, r') => .ok (s :: l, r')
/-- 'm': how much deeper blocks may lie -/
def stmtP (e : Nat) : Nat → List Tok → PR Sm
  | 0, ts => stmtW e (fun r => if isT [123] r = true then fail e 3 r else fail e 2 r) ts
  | m + 1, ts => stmtW e (fun r => match want e [123] r with
    | .error f => .error f
    | .ok r1 => restW (stmtP e m) (r1.length + 1) r1) ts
def restP (e m : Nat) (ts : List Tok) : PR (List Sm) := restW (stmtP e m) (ts.length + 1) ts

/-! ### programs -/
def localsP (e : Nat) : Nat → List Tok → PR (List Dc)
  | 0, ts => .error (0, 0)
  | n + 1, ts => if isT wLocal ts = true then (match listP e (declP e) (ts.length + 1) ts.tail with
      | .error f => .error f
      | .ok (l, r) => match localsP e n r with
        | .error f => .error f
        | .ok (l', r') => .ok (l ++ l', r'))
    else .ok ([], ts)
def threadP (e : Nat) (ts : List Tok) : PR Th := match nameP e ts with
  | .error f => .error f
  | .ok (t, r) => match want e [123] r with
    | .error f => .error f
    | .ok r1 => match localsP e (r1.length + 1) r1 with
      | .error f => .error f
      | .ok (l, r2) => match restP e 63 r2 with
        | .error f => .error f
        | .ok (b, r3) => .ok (⟨t.text, l, b, (t.at_ : Int)⟩, r3)
def threadsP (e : Nat) : Nat → List Tok → PR (List Th)
  | 0, ts => .error (0, 0)
  | n + 1, ts => if isT wThread ts = true then (match threadP e ts.tail with
      | .error f => .error f
      | .ok (t, r) => match threadsP e n r with
        | .error f => .error f
        | .ok (l, r') => .ok (t :: l, r'))
    else .ok ([], ts)
def progP (e : Nat) : Nat → List Tok → Except Flt Pg
  | 0, ts => .error (0, 0)
  | n + 1, ts => if isT wShared ts = true then (match listP e (initP e) (ts.length + 1) ts.tail with
      | .error f => .error f
      | .ok (l, r) => match progP e n r with
        | .error f => .error f
        | .ok p => .ok ⟨l ++ p.shared, p.locks, p.threads⟩)
    else if isT wLock ts = true then (match listP e (declP e) (ts.length + 1) ts.tail with
      | .error f => .error f
      | .ok (l, r) => match progP e n r with
        | .error f => .error f
        | .ok p => .ok ⟨p.shared, l ++ p.locks, p.threads⟩)
    else match threadsP e (ts.length + 1) ts with
      | .error f => .error f
      | .ok (l, r) => if r.length = 0 then .ok ⟨[], [], l⟩ else fail e 2 r
/-- Parse's answer: a program, an error, a place, a rule -/
def pg0 : Pg := ⟨[], [], []⟩
def parseRes (s : List UInt8) : Pg × Nat × Nat × Nat :=
  if 65536 < s.length then (pg0, 4, 0, 0) else match (front s).2 with
    | some (rule, p) => (pg0, 30, p, 1)
    | none => match progP s.length ((front s).1.length + 1) (front s).1 with
      | .error f => (pg0, 30, f.1, f.2)
      | .ok p => (p, 0, 0, 0)
def exprRes (s : List UInt8) : Ex × Nat × Nat × Nat :=
  if 65536 < s.length then (ex0, 4, 0, 0) else match (front s).2 with
    | some (rule, p) => (ex0, 30, p, 1)
    | none => match exprP s.length 64 (front s).1 with
      | .error f => (ex0, 30, f.1, f.2)
      | .ok (x, r) => if r.length = 0 then (x, 0, 0, 0) else (ex0, 30, atT s.length r, 2)
end ParS


/- What the parser computes, more: wanted words one after another; rests are rests of the tokens. -/
namespace ParS
open Sx LexS

/-- words that must stand here, one behind the other -/
def wantL (e : Nat) : List (List UInt8) → List Tok → Except Flt (List Tok)
  | [], ts => .ok ts
  | s :: l, ts => match want e s ts with
    | .error f => .error f
    | .ok r => wantL e l r
theorem wantL_one (e : Nat) (s : List UInt8) (ts : List Tok) : wantL e [s] ts = want e s ts := by
  simp only [wantL]; split <;> simp_all
theorem isT_ne {s : List UInt8} {r : List Tok} (h : isT s r = true) : r ≠ [] := by
  rintro rfl; simp [isT, here, tok0] at h
theorem kind_ne {k : Nat} {r : List Tok} (h : (here r).kind = k) (hk : k ≠ 0) : r ≠ [] := by
  rintro rfl; exact hk h.symm
theorem inner_ne {r : List Tok} (h : innerT r = true) : r ≠ [] := by rintro rfl; simp [innerT, isT, here, tok0] at h
theorem tail_lt {r : List Tok} (h : r ≠ []) : r.tail.length < r.length := by
  cases r with
  | nil => exact absurd rfl h
  | cons x l => simp
theorem want_ok {e : Nat} {s : List UInt8} {ts r : List Tok} (h : want e s ts = .ok r) : isT s ts = true ∧ r = ts.tail := by
  unfold want at h; split at h
  · rename_i hc; cases h; exact ⟨hc, rfl⟩
  · cases h
theorem want_pos {e : Nat} {s : List UInt8} {ts : List Tok} (h : isT s ts = true) : want e s ts = .ok ts.tail := by unfold want; rw [if_pos h]
theorem want_neg {e : Nat} {s : List UInt8} {ts : List Tok} (h : isT s ts = false) : want e s ts = .error (atT e ts, 2) := by unfold want; rw [if_neg (by simp [h])]; rfl
end ParS


/- The parser by operators that wait, and the one that climbs: the same trees. -/
namespace ParS
open Sx LexS

abbrev Flat := Nat × Nat × Ex
/-- climbing along operators that are cut already -/
def climbL : Nat → Int → Ex → List Flat → Ex × List Flat
  | 0, lv, x, l => (x, l)
  | n + 1, lv, x, [] => (x, [])
  | n + 1, lv, x, (op, a, y) :: l => if lvlO (op : Int) < lv then (x, (op, a, y) :: l) else
      climbL n lv (binE op a x (climbL n (lvlO (op : Int) + 1) y l).1) (climbL n (lvlO (op : Int) + 1) y l).2
theorem climbL_len : ∀ (n : Nat) (lv : Int) (x : Ex) (l : List Flat), (climbL n lv x l).2.length ≤ l.length
  | 0, lv, x, l => Nat.le_refl _
  | n + 1, lv, x, [] => Nat.le_refl _
  | n + 1, lv, x, (op, a, y) :: l => by
    simp only [climbL]
    split
    · exact Nat.le_refl _
    · have h1 := climbL_len n (lvlO (op : Int) + 1) y l
      have h2 := climbL_len n lv (binE op a x (climbL n (lvlO (op : Int) + 1) y l).1) (climbL n (lvlO (op : Int) + 1) y l).2
      simp only [List.length_cons]; omega
theorem climbL_fuel : ∀ (n m : Nat) (lv : Int) (x : Ex) (l : List Flat), l.length < n → l.length < m → climbL n lv x l = climbL m lv x l
  | 0, m, lv, x, l, h, _ => by omega
  | n + 1, 0, lv, x, l, _, h => by omega
  | n + 1, m + 1, lv, x, [], _, _ => rfl
  | n + 1, m + 1, lv, x, (op, a, y) :: l, h1, h2 => by
    simp only [List.length_cons] at h1 h2
    simp only [climbL]
    rw [climbL_fuel n m (lvlO (op : Int) + 1) y l (by omega) (by omega)]
    split
    · rfl
    · have h3 := climbL_len m (lvlO (op : Int) + 1) y l
      exact climbL_fuel n m _ _ _ (by omega) (by omega)
/-- what waits, finished by climbing -/
def contW : List Pend → Ex → List Flat → Ex
  | [], x, l => (climbL (l.length + 1) 1 x l).1
  | (op, a, left) :: W, x, l => contW W (binE op a left (climbL (l.length + 1) (lvlO (op : Int) + 1) x l).1) (climbL (l.length + 1) (lvlO (op : Int) + 1) x l).2
theorem contW_nil : ∀ (W : List Pend) (x : Ex), contW W x [] = (redu true 0 W x).2
  | [], x => rfl
  | (op, a, left) :: W, x => by
    simp only [contW, redu, climbL, true_or, if_true]
    exact contW_nil W _
theorem contW_push (W : List Pend) (op a : Nat) (x y : Ex) (l : List Flat) (h1 : 1 ≤ lvlO (op : Int)) (h2 : ∀ p W', W = p :: W' → lvlO (p.1 : Int) < lvlO (op : Int)) : contW W x ((op, a, y) :: l) = contW ((op, a, x) :: W) y l := by
  have key : ∀ lv : Int, lv ≤ lvlO (op : Int) → climbL (((op, a, y) :: l).length + 1) lv x ((op, a, y) :: l) =
      climbL ((climbL (l.length + 1) (lvlO (op : Int) + 1) y l).2.length + 1) lv (binE op a x (climbL (l.length + 1) (lvlO (op : Int) + 1) y l).1) (climbL (l.length + 1) (lvlO (op : Int) + 1) y l).2 := by
    intro lv hlv
    simp only [List.length_cons, climbL]
    rw [if_neg (by omega)]
    have h3 := climbL_len (l.length + 1) (lvlO (op : Int) + 1) y l
    exact climbL_fuel _ _ _ _ _ (by omega) (by omega)
  cases W with
  | nil => simp only [contW]; rw [key 1 h1]
  | cons p W =>
    obtain ⟨o, b, left⟩ := p
    simp only [contW]
    rw [key (lvlO (o : Int) + 1) (by have := h2 _ _ rfl; simp at this; omega)]
theorem contW_pop (W : List Pend) (o b op a : Nat) (left x y : Ex) (l : List Flat) (h : lvlO (op : Int) ≤ lvlO (o : Int)) : contW ((o, b, left) :: W) x ((op, a, y) :: l) = contW W (binE o b left x) ((op, a, y) :: l) := by
  simp only [contW, List.length_cons, climbL]
  rw [if_pos (by omega)]
theorem shunt_step : ∀ (W : List Pend) (x : Ex) (op a : Nat) (y : Ex) (l : List Flat), 1 ≤ lvlO (op : Int) →
    contW W x ((op, a, y) :: l) = contW ((op, a, (redu false (lvlO (op : Int)) W x).2) :: (redu false (lvlO (op : Int)) W x).1) y l
  | [], x, op, a, y, l, h => contW_push [] op a x y l h (by simp)
  | (o, b, left) :: W, x, op, a, y, l, h => by
    by_cases hc : lvlO (op : Int) ≤ lvlO (o : Int)
    · rw [contW_pop W o b op a left x y l hc, shunt_step W _ op a y l h]
      simp only [redu, Bool.false_eq_true, false_or, hc, if_true]
    · simp only [redu, Bool.false_eq_true, false_or, hc, if_false]
      exact contW_push _ op a x y l h (by rintro p W' e; simp only [List.cons.injEq] at e; obtain ⟨rfl, rfl⟩ := e; simp; omega)
/-- every operator of the list binds -/
def FlatOk (l : List Flat) : Prop := ∀ p ∈ l, 1 ≤ lvlO (p.1 : Int)
theorem shunt_cont : ∀ (l : List Flat) (W : List Pend) (x : Ex), FlatOk l → shunt l W x = contW W x l
  | [], W, x, _ => by simp only [shunt]; rw [contW_nil]
  | (op, a, y) :: l, W, x, h => by
    simp only [shunt]
    rw [shunt_step W x op a y l (h _ (.head _)), shunt_cont l _ _ (fun p hp => h p (.tail _ hp))]
theorem shunt_climb (l : List Flat) (x : Ex) (h : FlatOk l) : shunt l [] x = (climbL (l.length + 1) 1 x l).1 := shunt_cont l [] x h
theorem climbL_all : ∀ (n : Nat) (x : Ex) (l : List Flat), l.length < n → FlatOk l → (climbL n 1 x l).2 = []
  | 0, x, l, h, _ => by omega
  | n + 1, x, [], _, _ => rfl
  | n + 1, x, (op, a, y) :: l, h, hf => by
    simp only [List.length_cons] at h
    simp only [climbL]
    rw [if_neg (by have := hf _ (.head _); simp at this; omega)]
    have h1 := climbL_len n (lvlO (op : Int) + 1) y l
    refine climbL_all n _ _ (by omega) (fun p hp => ?_)
    exact hf p (.tail _ (climbL_mem n _ _ _ p hp))
where climbL_mem : ∀ (n : Nat) (lv : Int) (x : Ex) (l : List Flat) (p : Flat), p ∈ (climbL n lv x l).2 → p ∈ l
  | 0, lv, x, l, p, h => h
  | n + 1, lv, x, [], p, h => h
  | n + 1, lv, x, (op, a, y) :: l, p, h => by
    simp only [climbL] at h
    split at h
    · exact h
    · exact .tail _ (climbL_mem n _ _ _ p (climbL_mem n _ _ _ p h))

/-! ### on tokens -/
/-- climbing: the operand has come, operators of at least a level are gone along -/
def loopE (u : List Tok → PR Ex) : Nat → Int → Ex → List Tok → PR Ex
  | 0, lv, x, r => .error (0, 0)
  | n + 1, lv, x, r => match opT (here r) with
    | none => .ok (x, r)
    | some op => if lvlO (op : Int) < lv then .ok (x, r) else match u r.tail with
      | .error f => .error f
      | .ok (y, r1) => match loopE u n (lvlO (op : Int) + 1) y r1 with
        | .error f => .error f
        | .ok (z, r2) => loopE u n lv (binE op (here r).at_ x z) r2
/-- an operand's reader goes on -/
def Goes (u : List Tok → PR Ex) : Prop := ∀ r x r', u r = .ok (x, r') → r'.length < r.length
theorem findO_lvl {s : List UInt8} {op : Nat} (h : findO s = some op) : 1 ≤ lvlO (op : Int) := by
  unfold findO at h
  have h1 := List.find?_some h
  have h2 := List.mem_of_find?_eq_some h
  simp only [List.mem_range] at h2
  simp only [Bool.and_eq_true] at h1
  have key : ∀ k : Nat, k < 19 → twoOp (k : Int) = true → 1 ≤ lvlO (k : Int) := by decide
  exact key op h2 h1.1
theorem opT_lvl {t : Tok} {op : Nat} (h : opT t = some op) : 1 ≤ lvlO (op : Int) := by
  unfold opT at h; split at h
  · exact findO_lvl h
  · cases h
theorem opT_ne {r : List Tok} {op : Nat} (h : opT (here r) = some op) : r ≠ [] := by
  rintro rfl; simp [opT, here, tok0] at h
theorem flatE_fuel (u : List Tok → PR Ex) (hu : Goes u) : ∀ (n m : Nat) (r : List Tok), r.length < n → r.length < m → flatE u n r = flatE u m r
  | 0, m, r, h, _ => by omega
  | n + 1, 0, r, _, h => by omega
  | n + 1, m + 1, r, h1, h2 => by
    simp only [flatE]
    cases hop : opT (here r) with
    | none => rfl
    | some op =>
      simp only
      cases hx : u r.tail with
      | error f => rfl
      | ok p =>
        obtain ⟨x, r1⟩ := p
        simp only
        have := hu _ _ _ hx
        have := tail_lt (opT_ne hop)
        rw [flatE_fuel u hu n m r1 (by omega) (by omega)]
theorem flatE_ok (u : List Tok → PR Ex) : ∀ (n : Nat) (r : List Tok) (l : List Flat) (r' : List Tok), flatE u n r = .ok (l, r') → FlatOk l
  | 0, r, l, r', h => by simp [flatE] at h
  | n + 1, r, l, r', h => by
    simp only [flatE] at h
    cases hop : opT (here r) with
    | none => rw [hop] at h; cases h; intro p hp; simp at hp
    | some op =>
      rw [hop] at h
      simp only at h
      cases hx : u r.tail with
      | error f => rw [hx] at h; cases h
      | ok p =>
        obtain ⟨x, r1⟩ := p
        rw [hx] at h
        simp only at h
        cases hf : flatE u n r1 with
        | error f => rw [hf] at h; cases h
        | ok q =>
          obtain ⟨l1, r2⟩ := q
          rw [hf] at h
          cases h
          intro p hp
          rcases List.mem_cons.1 hp with rfl | hp
          · exact opT_lvl hop
          · exact flatE_ok u n r1 l1 _ hf p hp
/-- climbing on tokens goes as climbing on what is cut -/
theorem loopE_flat (u : List Tok → PR Ex) (hu : Goes u) : ∀ (n : Nat) (lv : Int) (x : Ex) (r : List Tok), r.length < n →
    (∀ l rE, flatE u n r = .ok (l, rE) → ∃ r', loopE u n lv x r = .ok ((climbL n lv x l).1, r') ∧ r'.length ≤ r.length ∧ flatE u n r' = .ok ((climbL n lv x l).2, rE) ∧ l.length ≤ r.length) ∧
    (∀ f, flatE u n r = .error f → loopE u n lv x r = .error f ∨ ∃ x' r', loopE u n lv x r = .ok (x', r') ∧ r'.length ≤ r.length ∧ flatE u n r' = .error f ∧ ∃ op, opT (here r') = some op ∧ lvlO (op : Int) < lv)
  | 0, lv, x, r, h => by omega
  | n + 1, lv, x, r, h => by
    cases hop : opT (here r) with
    | none =>
      have e1 : flatE u (n + 1) r = .ok ([], r) := by simp only [flatE, hop]
      have e2 : loopE u (n + 1) lv x r = .ok (x, r) := by simp only [loopE, hop]
      refine ⟨fun l rE hl => ?_, fun f hf => by rw [e1] at hf; cases hf⟩
      rw [e1] at hl; cases hl
      exact ⟨r, e2, Nat.le_refl _, e1, Nat.zero_le _⟩
    | some op =>
      have hne := tail_lt (opT_ne hop)
      cases hx : u r.tail with
      | error f0 =>
        have e1 : flatE u (n + 1) r = .error f0 := by simp only [flatE, hop, hx]
        refine ⟨fun l rE hl => by (rw [e1] at hl; cases hl), fun f hf => ?_⟩
        rw [e1] at hf; cases hf
        by_cases hlv : lvlO (op : Int) < lv
        · right
          exact ⟨x, r, by simp only [loopE, hop, hlv, if_true], Nat.le_refl _, e1, op, hop, hlv⟩
        · left
          simp only [loopE, hop, hlv, if_false, hx]
      | ok p =>
        obtain ⟨y, r1⟩ := p
        have hr1 := hu _ _ _ hx
        have e1 : flatE u (n + 1) r = match flatE u n r1 with | .error f => .error f | .ok (l, r') => .ok ((op, (here r).at_, y) :: l, r') := by first | (simp only [flatE, hop, hx]; done) | (simp only [flatE, hop, hx]; rfl)
        by_cases hlv : lvlO (op : Int) < lv
        · have e2 : loopE u (n + 1) lv x r = .ok (x, r) := by simp only [loopE, hop, hlv, if_true]
          refine ⟨fun l rE hl => ?_, fun f hf => .inr ⟨x, r, e2, Nat.le_refl _, hf, op, hop, hlv⟩⟩
          have hl' := hl
          rw [e1] at hl'
          cases hf : flatE u n r1 with
          | error f => rw [hf] at hl'; cases hl'
          | ok q =>
            obtain ⟨l1, r2⟩ := q
            rw [hf] at hl'
            simp only [Except.ok.injEq, Prod.mk.injEq] at hl'
            obtain ⟨rfl, rfl⟩ := hl'
            have hlen := ((loopE_flat u hu n 0 x r1 (by omega)).1 l1 _ hf).choose_spec.2.2.2
            refine ⟨r, ?_, Nat.le_refl _, ?_, by simp only [List.length_cons]; omega⟩
            · simp only [climbL, hlv, if_true]; exact e2
            · simp only [climbL, hlv, if_true]; exact hl
        · have e2 : loopE u (n + 1) lv x r = match loopE u n (lvlO (op : Int) + 1) y r1 with | .error f => .error f | .ok (z, r2) => loopE u n lv (binE op (here r).at_ x z) r2 := by simp only [loopE, hop, hlv, if_false, hx]
          obtain ⟨ihA, ihB⟩ := loopE_flat u hu n (lvlO (op : Int) + 1) y r1 (by omega)
          refine ⟨fun l rE hl => ?_, fun f hf => ?_⟩
          · have hl' := hl
            rw [e1] at hl'
            cases hf : flatE u n r1 with
            | error f => rw [hf] at hl'; cases hl'
            | ok q =>
              obtain ⟨l1, r2⟩ := q
              rw [hf] at hl'
              simp only [Except.ok.injEq, Prod.mk.injEq] at hl'
              obtain ⟨rfl, rfl⟩ := hl'
              obtain ⟨r3, h1, h2, h3, h4⟩ := ihA l1 _ hf
              obtain ⟨r4, k1, k2, k3, k4⟩ := (loopE_flat u hu n lv (binE op (here r).at_ x (climbL n (lvlO (op : Int) + 1) y l1).1) r3 (by omega)).1 _ _ h3
              refine ⟨r4, ?_, by omega, ?_, by simp only [List.length_cons]; omega⟩
              · rw [e2, h1]
                simp only [climbL, hlv, if_false]
                exact k1
              · simp only [climbL, hlv, if_false]
                rw [flatE_fuel u hu (n + 1) n r4 (by omega) (by omega)]
                exact k3
          · rw [e1] at hf
            have hf' : flatE u n r1 = .error f := by
              cases hq : flatE u n r1 with
              | error g => rw [hq] at hf; cases hf; rfl
              | ok q => rw [hq] at hf; cases hf
            rcases ihB f hf' with h1 | ⟨x', r', h1, h2, h3, op', h4, h5⟩
            · left; rw [e2, h1]
            · rcases (loopE_flat u hu n lv (binE op (here r).at_ x x') r' (by omega)).2 f h3 with k1 | ⟨x2, r2, k1, k2, k3, k4⟩
              · left; rw [e2, h1]; exact k1
              · right
                refine ⟨x2, r2, by rw [e2, h1]; exact k1, by omega, ?_, k4⟩
                rw [flatE_fuel u hu (n + 1) n r2 (by omega) (by omega)]
                exact k3
/-- an expression, by climbing -/
def climbE (u : List Tok → PR Ex) (lv : Int) (r : List Tok) : PR Ex := match u r with
  | .error f => .error f
  | .ok (x, r1) => loopE u (r1.length + 1) lv x r1
theorem climbE_expr (u : List Tok → PR Ex) (hu : Goes u) (r : List Tok) : climbE u 1 r = exprW u r := by
  unfold climbE exprW
  cases hx : u r with
  | error f => rfl
  | ok p =>
    obtain ⟨x, r1⟩ := p
    simp only
    obtain ⟨hA, hB⟩ := loopE_flat u hu (r1.length + 1) 1 x r1 (by omega)
    cases hf : flatE u (r1.length + 1) r1 with
    | error f =>
      simp only
      rcases hB f hf with h | ⟨x', r', h1, h2, h3, op, h4, h5⟩
      · exact h
      · have := opT_lvl h4; omega
    | ok q =>
      obtain ⟨l, rE⟩ := q
      simp only
      obtain ⟨r', h1, h2, h3, h4⟩ := hA l rE hf
      have hok := flatE_ok u _ _ _ _ hf
      rw [climbL_all _ _ _ (by omega) hok] at h3
      have e : r' = rE := by
        simp only [flatE] at h3
        cases hop : opT (here r') with
        | none => rw [hop] at h3; simp at h3; exact h3
        | some op =>
          rw [hop] at h3
          simp only at h3
          cases hy : u r'.tail with
          | error f => rw [hy] at h3; cases h3
          | ok q2 =>
            obtain ⟨y, r2⟩ := q2
            rw [hy] at h3
            simp only at h3
            cases hq : flatE u r1.length r2 with
            | error f => rw [hq] at h3; cases h3
            | ok q3 => rw [hq] at h3; simp at h3
      rw [h1, e, shunt_climb l x hok, climbL_fuel _ (l.length + 1) 1 x l (by omega) (by omega)]
theorem loopE_fuel (u : List Tok → PR Ex) (hu : Goes u) (hL : ∀ n lv x r z r', loopE u n lv x r = .ok (z, r') → r'.length ≤ r.length) : ∀ (n m : Nat) (lv : Int) (x : Ex) (r : List Tok), r.length < n → r.length < m → loopE u n lv x r = loopE u m lv x r
  | 0, m, lv, x, r, h, _ => by omega
  | n + 1, 0, lv, x, r, _, h => by omega
  | n + 1, m + 1, lv, x, r, h1, h2 => by
    simp only [loopE]
    cases hop : opT (here r) with
    | none => rfl
    | some op =>
      simp only
      have := tail_lt (opT_ne hop)
      split
      · rfl
      · cases hx : u r.tail with
        | error f => rfl
        | ok p =>
          obtain ⟨y, r1⟩ := p
          simp only
          have := hu _ _ _ hx
          rw [loopE_fuel u hu hL n m (lvlO (op : Int) + 1) y r1 (by omega) (by omega)]
          cases hz : loopE u m (lvlO (op : Int) + 1) y r1 with
          | error f => rfl
          | ok q =>
            obtain ⟨z, r2⟩ := q
            simp only
            have := hL _ _ _ _ _ _ hz
            exact loopE_fuel u hu hL n m _ _ _ (by omega) (by omega)
theorem loopE_len (u : List Tok → PR Ex) (hu : Goes u) : ∀ (n : Nat) (lv : Int) (x : Ex) (r : List Tok) (z : Ex) (r' : List Tok), loopE u n lv x r = .ok (z, r') → r'.length ≤ r.length
  | 0, lv, x, r, z, r', h => by simp [loopE] at h
  | n + 1, lv, x, r, z, r', h => by
    simp only [loopE] at h
    cases hop : opT (here r) with
    | none => rw [hop] at h; cases h; exact Nat.le_refl _
    | some op =>
      rw [hop] at h
      simp only at h
      have := tail_lt (opT_ne hop)
      split at h
      · cases h; exact Nat.le_refl _
      · cases hx : u r.tail with
        | error f => rw [hx] at h; cases h
        | ok p =>
          obtain ⟨y, r1⟩ := p
          rw [hx] at h
          simp only at h
          have := hu _ _ _ hx
          cases hz : loopE u n (lvlO (op : Int) + 1) y r1 with
          | error f => rw [hz] at h; cases h
          | ok q =>
            obtain ⟨z1, r2⟩ := q
            rw [hz] at h
            simp only at h
            have := loopE_len u hu _ _ _ _ _ _ hz
            have := loopE_len u hu _ _ _ _ _ _ h
            omega
end ParS


/- Trees with each name and place turned: no program in sight. -/
namespace LexS
open Sx
section
variable (g : List UInt8 → List UInt8) (h : Int → Int)
mutual
def trE : Ex → Ex
  | .mk k op wd nm kids a => .mk k op wd (g nm) (trEs kids) (h a)
termination_by structural e => e
def trEs : List Ex → List Ex
  | [] => []
  | e :: r => trE e :: trEs r
termination_by structural l => l
end
mutual
def trS : Sm → Sm
  | .mk k nm other e body els a => .mk k (g nm) (g other) (trEs g h e) (trSs body) (trSs els) (h a)
termination_by structural e => e
def trSs : List Sm → List Sm
  | [] => []
  | e :: r => trS e :: trSs r
termination_by structural l => l
end
def trD (d : Dc) : Dc := ⟨g d.nm, d.wd, h d.a⟩
def trT (t : Th) : Th := ⟨g t.nm, t.locals.map (trD g h), trSs g h t.body, h t.a⟩
def trP (p : Pg) : Pg := ⟨p.shared.map (trD g h), p.locks.map (trD g h), p.threads.map (trT g h)⟩
end
variable {g : List UInt8 → List UInt8} {h : Int → Int}
theorem trEs_map (l : List Ex) : trEs g h l = l.map (trE g h) := by
  induction l with
  | nil => rfl
  | cons x r ih => simp only [trEs, List.map_cons, ih]
theorem trSs_map (l : List Sm) : trSs g h l = l.map (trS g h) := by
  induction l with
  | nil => rfl
  | cons x r ih => simp only [trSs, List.map_cons, ih]
end LexS


/- The names of a tree: no program in sight. -/
namespace LexS
open Sx
end LexS


/- When trees are the same: no program in sight. -/
namespace LexS
open Sx
def zipA {α β : Type} (f : α → β → Bool) : List α → List β → Bool
  | [], [] => true
  | x :: r, y :: s => f x y && zipA f r s
  | _, _ => false
mutual
def sameE : Ex → Ex → Bool
  | .mk k op wd nm kids a, y => decide (k = y.k ∧ op = y.op ∧ wd = y.wd ∧ nm = y.nm) && sameEs kids y.kids
termination_by structural e => e
def sameEs : List Ex → List Ex → Bool
  | [], l => l.isEmpty
  | x :: r, l => match l with | [] => false | y :: s => sameE x y && sameEs r s
termination_by structural l => l
end
theorem sameEs_eq : ∀ (a b : List Ex), sameEs a b = zipA sameE a b
  | [], [] => rfl
  | [], _ :: _ => rfl
  | _ :: _, [] => by simp [sameEs, zipA]
  | x :: r, y :: s => by simp only [sameEs, zipA, sameEs_eq r s]
theorem sameE_eq (e y : Ex) : sameE e y = (decide (e.k = y.k ∧ e.op = y.op ∧ e.wd = y.wd ∧ e.nm = y.nm) && zipA sameE e.kids y.kids) := by
  cases e; rw [sameE, sameEs_eq]; rfl
mutual
def sameS : Sm → Sm → Bool
  | .mk k nm other e body els a, y => decide (k = y.k ∧ nm = y.nm ∧ other = y.other) && zipA sameE e y.e && sameSs body y.body && sameSs els y.els
termination_by structural e => e
def sameSs : List Sm → List Sm → Bool
  | [], l => l.isEmpty
  | x :: r, l => match l with | [] => false | y :: s => sameS x y && sameSs r s
termination_by structural l => l
end
theorem sameSs_eq : ∀ (a b : List Sm), sameSs a b = zipA sameS a b
  | [], [] => rfl
  | [], _ :: _ => rfl
  | _ :: _, [] => by simp [sameSs, zipA]
  | x :: r, y :: s => by simp only [sameSs, zipA, sameSs_eq r s]
theorem sameS_eq (s y : Sm) : sameS s y = (decide (s.k = y.k ∧ s.nm = y.nm ∧ s.other = y.other) && zipA sameE s.e y.e && zipA sameS s.body y.body && zipA sameS s.els y.els) := by
  cases s; rw [sameS, sameSs_eq, sameSs_eq]; rfl
def sameD (d y : Dc) : Bool := decide (d.nm = y.nm ∧ d.wd = y.wd)
def sameT (t y : Th) : Bool := decide (t.nm = y.nm) && zipA sameD t.locals y.locals && zipA sameS t.body y.body
def sameP (p q : Pg) : Bool := zipA sameD p.shared q.shared && zipA sameD p.locks q.locks && zipA sameT p.threads q.threads
theorem memE_lt {e x : Ex} (h : x ∈ e.kids) : SizeOf.sizeOf x < SizeOf.sizeOf e := by
  cases e with
  | mk k op wd nm kids a =>
    have := List.sizeOf_lt_of_mem h
    simp only [Ex.kids] at this
    simp only [Ex.mk.sizeOf_spec]; omega
theorem memS_lt {s x : Sm} (h : x ∈ s.body ∨ x ∈ s.els) : SizeOf.sizeOf x < SizeOf.sizeOf s := by
  cases s with
  | mk k nm other e body els a =>
    simp only [Sm.body, Sm.els] at h
    simp only [Sm.mk.sizeOf_spec]
    rcases h with h | h <;> (have := List.sizeOf_lt_of_mem h; omega)
end LexS


/- When a tree may be written, and its text: no program in sight. -/
namespace LexS
open Sx
/-! ## when a tree may be written, and its text -/
/-- does a kid of a binary expression stand in parentheses? -/
def inn (op : Int) (x : Ex) (second : Bool) : Bool := decide (x.k = 4) && (decide (lvlO x.op < lvlO op) || second && decide (lvlO x.op = lvlO op))
def rightE : Ex → Nat → Bool
  | .mk k op wd nm kids a, d => decide (d ≤ 64) && (
    if k = 1 then decide (0 ≤ wd ∧ op = 0 ∧ nm = [] ∧ kids.length = 0)
    else if k = 2 then isName nm && decide (op = 0 ∧ wd = 0 ∧ kids.length = 0)
    else if k = 3 then oneOp op && decide (wd = 0 ∧ nm = []) && (match kids with | [x] => rightE x (if x.k = 4 then d + 2 else d + 1) | _ => false)
    else if k = 4 then twoOp op && decide (wd = 0 ∧ nm = []) && (match kids with | [x, y] => rightE x (if inn op x false = true then d + 1 else d) && rightE y (if inn op y true = true then d + 1 else d) | _ => false)
    else false)
def par (b : Bool) (l : List UInt8) : List UInt8 := if b = true then [40] ++ l ++ [41] else l
def txtE : Ex → List UInt8
  | .mk k op wd nm kids a => if k = 1 then shw wd else if k = 2 then nm else if k = 3 then shwO op ++ (match kids with | [x] => par (decide (x.k = 4)) (txtE x) | _ => [])
    else (match kids with | [x, y] => par (inn op x false) (txtE x) ++ ([32] ++ shwO op ++ [32]) ++ par (inn op y true) (txtE y) | _ => [])
def hasN (k : Int) : Bool := decide (k = 1 ∨ k = 2 ∨ k = 5)
def hasE (k : Int) : Bool := decide (k = 1 ∨ k = 2 ∨ k = 3 ∨ k = 4 ∨ k = 6)
def hasB (k : Int) : Bool := decide (k = 3 ∨ k = 4 ∨ k = 5)
def nmOk (b : Bool) (l : List UInt8) : Bool := if b = true then isName l else decide (l = [])
def rightX (b : Bool) (e : List Ex) : Bool := if b = true then (match e with | [x] => rightE x 0 | _ => false) else decide (e.length = 0)
mutual
def rightS : Sm → Nat → Bool
  | .mk k nm other e body els a, d => decide (1 ≤ k ∧ k ≤ 7) && nmOk (hasN k) nm && nmOk (decide (k = 2)) other && rightX (hasE k) e && (hasB k || decide (body.length = 0)) && (decide (k = 3) || decide (els.length = 0)) &&
    (!(hasB k || decide (0 < els.length)) || decide (d < 64)) && rightSs body (d + 1) && rightSs els (d + 1)
termination_by structural s => s
def rightSs : List Sm → Nat → Bool
  | [], _ => true
  | s :: r, d => rightS s d && rightSs r d
termination_by structural l => l
end
def dcOk (shared : Bool) (x : Dc) : Bool := isName x.nm && (if shared = true then decide (x.wd ≠ -9223372036854775808) else decide (x.wd = 0))
def thOk (t : Th) : Bool := isName t.nm && t.locals.all (dcOk false) && rightSs t.body 1
def pgOk (p : Pg) : Bool := p.shared.all (dcOk true) && p.locks.all (dcOk false) && p.threads.all thOk
end LexS


/- How long a tree's text is: no program in sight. -/
namespace LexS
open Sx
theorem shw_len20 (x : Int) (hx : i64 x) : (shw x).length ≤ 20 := by
  have h : (dec x.natAbs).length ≤ 19 := dec_len 18 _ (by have := hx.1; have := hx.2; omega)
  unfold shw
  split <;> simp <;> omega
theorem par_len (b : Bool) (l : List UInt8) : (par b l).length ≤ l.length + 2 := by
  unfold par
  split <;> simp
theorem txtE_len : ∀ (n : Nat) (e : Ex), SizeOf.sizeOf e = n → OkE e → (txtE e).length ≤ 30 * szE e := by
  intro n
  refine Nat.strongRecOn n fun n ih e hn hok => ?_
  subst hn
  cases e with
  | mk k op wd nm kids a =>
    have hw := shw_len20 wd hok.wd
    have ho := shwO_len op
    have hkid : ∀ (j : Nat) x, kids[j]? = some x → (txtE x).length ≤ 30 * szE x := fun j x hx => ih _ (by have := List.sizeOf_lt_of_mem (List.mem_of_getElem? hx); simp; omega) x rfl (hok.kid (j := j) hx)
    rcases kids with _ | ⟨x, _ | ⟨y, _ | ⟨z, r⟩⟩⟩
    · simp only [txtE, szE, szEs]
      split
      · omega
      · split
        · omega
        · split <;> simp; omega
    · have h1 := hkid 0 x rfl
      have h2 := par_len (decide (x.k = 4)) (txtE x)
      simp only [txtE, szE, szEs]
      split
      · omega
      · split
        · omega
        · split
          · simp only [List.length_append]; omega
          · simp
    · have h1 := hkid 0 x rfl
      have h2 := par_len (inn op x false) (txtE x)
      have h3 := hkid 1 y rfl
      have h4 := par_len (inn op y true) (txtE y)
      simp only [txtE, szE, szEs]
      split
      · omega
      · split
        · omega
        · split
          · simp; omega
          · simp only [List.length_append, List.length_cons, List.length_nil]; omega
    · simp only [txtE, szE, szEs]
      split
      · omega
      · split
        · omega
        · split <;> simp; omega
end LexS


/- Places change no text: no program in sight. -/
namespace LexS
open Sx
abbrev idS : List UInt8 → List UInt8 := fun s => s
section
variable {h : Int → Int}
theorem trE_k (e : Ex) : (trE idS h e).k = e.k := by cases e; rfl
theorem trE_op (e : Ex) : (trE idS h e).op = e.op := by cases e; rfl
theorem inn_tr (op : Int) (x : Ex) (b : Bool) : inn op (trE idS h x) b = inn op x b := by unfold inn; rw [trE_k, trE_op]
theorem rightE_tr : ∀ (n : Nat) (e : Ex), SizeOf.sizeOf e = n → ∀ d, rightE (trE idS h e) d = rightE e d := by
  intro n
  refine Nat.strongRecOn n fun n ih e hn d => ?_
  subst hn
  cases e with
  | mk k op wd nm kids a =>
    have hkid : ∀ x ∈ kids, ∀ d, rightE (trE idS h x) d = rightE x d := fun x hx d => ih _ (by have := List.sizeOf_lt_of_mem hx; simp; omega) x rfl d
    rcases kids with _ | ⟨x, _ | ⟨y, _ | ⟨z, r⟩⟩⟩
    · simp only [trE, trEs, rightE]
    · simp only [trE, trEs, rightE, trE_k, hkid x (by simp)]; simp
    · simp only [trE, trEs, rightE, inn_tr, hkid x (by simp), hkid y (by simp)]; simp
    · simp only [trE, trEs, rightE]; simp
end
/-! ### twice -/
section
variable {g : List UInt8 → List UInt8} {h g' : List UInt8 → List UInt8} {k k' : Int → Int}
mutual
theorem trE_trE : ∀ e : Ex, trE g' k' (trE g k e) = trE (fun s => g' (g s)) (fun a => k' (k a)) e
  | .mk _ op wd nm kids a => by simp only [trE, trEs_trEs kids]
termination_by structural e => e
theorem trEs_trEs : ∀ l : List Ex, trEs g' k' (trEs g k l) = trEs (fun s => g' (g s)) (fun a => k' (k a)) l
  | [] => rfl
  | e :: r => by simp only [trEs, trE_trE e, trEs_trEs r]
termination_by structural l => l
end
mutual
theorem trS_trS : ∀ s : Sm, trS g' k' (trS g k s) = trS (fun s => g' (g s)) (fun a => k' (k a)) s
  | .mk _ nm other e body els a => by simp only [trS, trEs_trEs, trSs_trSs body, trSs_trSs els]
termination_by structural e => e
theorem trSs_trSs : ∀ l : List Sm, trSs g' k' (trSs g k l) = trSs (fun s => g' (g s)) (fun a => k' (k a)) l
  | [] => rfl
  | s :: r => by simp only [trSs, trS_trS s, trSs_trSs r]
termination_by structural l => l
end
theorem trP_trP (p : Pg) : trP g' k' (trP g k p) = trP (fun s => g' (g s)) (fun a => k' (k a)) p := by
  have hd : ∀ l : List Dc, (l.map (trD g k)).map (trD g' k') = l.map (trD (fun s => g' (g s)) (fun a => k' (k a))) := fun l => by rw [List.map_map]; rfl
  simp only [trP, hd, List.map_map]
  congr 1
  refine List.map_congr_left fun t _ => ?_
  simp only [Function.comp, trT, hd, trSs_trSs]
end
/-! ### the numbers stay of their kinds -/
section
variable {g : List UInt8 → List UInt8} {k : Int → Int} (hk : ∀ a, i64 a → i64 (k a))
include hk
end
end LexS


/- A tree renamed: no program in sight. -/
namespace LexS
open Sx
theorem rightE_iff {e : Ex} {d : Nat} : rightE e d = true ↔ d ≤ 64 ∧ ((e.k = 1 ∧ 0 ≤ e.wd ∧ e.op = 0 ∧ e.nm = [] ∧ e.kids = []) ∨ (e.k = 2 ∧ isName e.nm = true ∧ e.op = 0 ∧ e.wd = 0 ∧ e.kids = []) ∨
    (e.k = 3 ∧ oneOp e.op = true ∧ e.wd = 0 ∧ e.nm = [] ∧ ∃ x, e.kids = [x] ∧ rightE x (if x.k = 4 then d + 2 else d + 1) = true) ∨
    (e.k = 4 ∧ twoOp e.op = true ∧ e.wd = 0 ∧ e.nm = [] ∧ ∃ x y, e.kids = [x, y] ∧ rightE x (if inn e.op x false = true then d + 1 else d) = true ∧ rightE y (if inn e.op y true = true then d + 1 else d) = true)) := by
  cases e with
  | mk k op wd nm kids a =>
    simp only [Ex.k, Ex.op, Ex.wd, Ex.nm, Ex.kids]
    rcases kids with _ | ⟨x, _ | ⟨y, _ | ⟨z, r⟩⟩⟩ <;>
    · simp only [rightE, Bool.and_eq_true, decide_eq_true_eq]
      refine and_congr_right fun _ => ?_
      by_cases h1 : k = 1
      · subst h1; simp
      by_cases h2 : k = 2
      · subst h2; simp
      by_cases h3 : k = 3
      · subst h3; simp [and_assoc] <;> (try (intros; constructor <;> intro h <;> first | exact h | exact ⟨_, rfl, h⟩ | exact ⟨_, _, rfl, rfl, h⟩ | exact ⟨_, rfl, _, rfl, h⟩ | (obtain ⟨_, rfl, h⟩ := h; exact h) | (obtain ⟨_, _, rfl, rfl, h⟩ := h; exact h) | (obtain ⟨_, rfl, _, rfl, h⟩ := h; exact h)))
      by_cases h4 : k = 4
      · subst h4; simp [and_assoc] <;> (try (intros; constructor <;> intro h <;> first | exact h | exact ⟨_, rfl, h⟩ | exact ⟨_, _, rfl, rfl, h⟩ | exact ⟨_, rfl, _, rfl, h⟩ | (obtain ⟨_, rfl, h⟩ := h; exact h) | (obtain ⟨_, _, rfl, rfl, h⟩ := h; exact h) | (obtain ⟨_, rfl, _, rfl, h⟩ := h; exact h)))
      simp [h1, h2, h3, h4]
theorem rightX_iff {b : Bool} {e : List Ex} : rightX b e = true ↔ (b = true ∧ ∃ x, e = [x] ∧ rightE x 0 = true) ∨ (b = false ∧ e = []) := by
  cases b
  · simp [rightX]
  · rcases e with _ | ⟨x, _ | ⟨y, r⟩⟩ <;> simp [rightX]
section
variable {g : Wd → Wd} {h : Int → Int}
end
end LexS


/- The tokens of a tree, and that they are parsed as the tree: expressions. -/
namespace ParS
open Sx LexS

section
variable (k op wd : Int) (nm : List UInt8) (kids : List Ex) (a : Int)
theorem exk : (Ex.mk k op wd nm kids a).k = k := rfl
theorem exop : (Ex.mk k op wd nm kids a).op = op := rfl
theorem exwd : (Ex.mk k op wd nm kids a).wd = wd := rfl
theorem exnm : (Ex.mk k op wd nm kids a).nm = nm := rfl
theorem exkids : (Ex.mk k op wd nm kids a).kids = kids := rfl
end
/-! ### how far readers go -/
theorem flatE_len (u : List Tok → PR Ex) (hu : Goes u) : ∀ (n : Nat) (r : List Tok) (l : List Flat) (r' : List Tok), flatE u n r = .ok (l, r') → r'.length ≤ r.length
  | 0, r, l, r', h => by simp [flatE] at h
  | n + 1, r, l, r', h => by
    simp only [flatE] at h
    cases hop : opT (here r) with
    | none => rw [hop] at h; cases h; exact Nat.le_refl _
    | some op =>
      rw [hop] at h
      simp only at h
      cases hx : u r.tail with
      | error f => rw [hx] at h; cases h
      | ok p =>
        obtain ⟨x, r1⟩ := p
        rw [hx] at h
        simp only at h
        cases hf : flatE u n r1 with
        | error f => rw [hf] at h; cases h
        | ok q =>
          obtain ⟨l1, r2⟩ := q
          rw [hf] at h
          cases h
          have := flatE_len u hu n r1 l1 _ hf
          have := hu _ _ _ hx
          have := tail_lt (opT_ne hop)
          omega
theorem exprW_goes {u : List Tok → PR Ex} (hu : Goes u) : Goes (exprW u) := by
  intro r x r' h
  unfold exprW at h
  cases hx : u r with
  | error f => rw [hx] at h; cases h
  | ok p =>
    obtain ⟨y, r1⟩ := p
    rw [hx] at h
    simp only at h
    cases hf : flatE u (r1.length + 1) r1 with
    | error f => rw [hf] at h; cases h
    | ok q =>
      obtain ⟨l1, r2⟩ := q
      rw [hf] at h
      cases h
      have := flatE_len u hu _ _ _ _ hf
      have := hu _ _ _ hx
      omega
theorem leaf_goes (e : Nat) : Goes (leafP e) := by
  intro r x r' h
  unfold leafP at h
  split at h
  · rename_i hk; cases h; exact tail_lt (kind_ne hk (by decide))
  · split at h
    · rename_i hk; cases h; exact tail_lt (kind_ne hk (by decide))
    · cases h
theorem unary_goes (e : Nat) : ∀ m, Goes (unaryP e m)
  | 0 => by
    intro r x r' h
    simp only [unaryP] at h
    split at h
    · cases h
    · exact leaf_goes e r x r' h
  | m + 1 => by
    intro r x r' h
    simp only [unaryP] at h
    split at h
    · rename_i hi
      have h0 := tail_lt (inner_ne hi)
      split at h
      · cases hx : exprW (unaryP e m) r.tail with
        | error f => rw [hx] at h; cases h
        | ok p =>
          obtain ⟨y, r1⟩ := p
          rw [hx] at h
          simp only at h
          have h1 := exprW_goes (unary_goes e m) _ _ _ hx
          cases hw : want e [41] r1 with
          | error f => rw [hw] at h; cases h
          | ok r2 =>
            rw [hw] at h
            cases h
            obtain ⟨h2, rfl⟩ := want_ok hw
            have := tail_lt (isT_ne h2)
            omega
      · cases hx : unaryP e m r.tail with
        | error f => rw [hx] at h; cases h
        | ok p =>
          obtain ⟨y, r1⟩ := p
          rw [hx] at h
          cases h
          have h1 := unary_goes e m _ _ _ hx
          omega
    · exact leaf_goes e r x r' h
/-! ### the tokens of an expression -/
def sgT (s : List UInt8) : Tok := ⟨4, s, 0, 0⟩
def nmT (s : List UInt8) : Tok := ⟨1, s, 0, 0⟩
def wdT (s : List UInt8) : Tok := ⟨2, s, 0, 0⟩
def nuT (n : Nat) : Tok := ⟨3, dec n, n, 0⟩
def parT (b : Bool) (l : List Tok) : List Tok := if b = true then sgT [40] :: (l ++ [sgT [41]]) else l
def tkE : Ex → List Tok
  | .mk k op wd nm kids a => if k = 1 then [nuT wd.toNat] else if k = 2 then [nmT nm] else if k = 3 then sgT (shwO op) :: (match kids with | [x] => parT (decide (x.k = 4)) (tkE x) | _ => [])
    else (match kids with | [x, y] => parT (inn op x false) (tkE x) ++ (sgT (shwO op) :: parT (inn op y true) (tkE y)) | _ => [])
abbrev zE : Ex → Ex := trE idS (fun _ => 0)
theorem here_cons (t : Tok) (l : List Tok) : here (t :: l) = t := rfl
theorem isT_sg (s x : List UInt8) (l : List Tok) : isT s (sgT x :: l) = decide (x = s) := by rw [Bool.eq_iff_iff]; simp [isT, here, sgT] <;> exact decide_eq_true_iff
theorem isT_wd (s x : List UInt8) (l : List Tok) : isT s (wdT x :: l) = decide (x = s) := by rw [Bool.eq_iff_iff]; simp [isT, here, wdT] <;> exact decide_eq_true_iff
theorem isT_nm (s x : List UInt8) (l : List Tok) : isT s (nmT x :: l) = false := by simp [isT, here, nmT]
theorem isT_nu (s : List UInt8) (n : Nat) (l : List Tok) : isT s (nuT n :: l) = false := by simp [isT, here, nuT]
theorem opT_sg {k : Int} (h : twoOp k = true) : ∃ op : Nat, opT (sgT (shwO k)) = some op ∧ (op : Int) = k := by
  simp only [twoOp, decide_eq_true_eq] at h
  obtain ⟨m, rfl⟩ : ∃ m : Nat, k = (m : Int) := ⟨k.toNat, by omega⟩
  have key : ∀ m : Nat, m < 17 → 0 < m → findO (shwO (m : Int)) = some m := by decide
  exact ⟨m, by simp only [opT, sgT, if_true]; exact key m (by omega) (by omega), rfl⟩
theorem opT_par (l : List Tok) : opT (here (sgT [41] :: l)) = none := by show opT (sgT [41]) = none; decide
theorem loopE_stop (u : List Tok → PR Ex) (n : Nat) (lv : Int) (x : Ex) (Z : List Tok) (h : ∀ o, opT (here Z) = some o → lvlO (o : Int) < lv) : loopE u (n + 1) lv x Z = .ok (x, Z) := by
  simp only [loopE]
  cases hop : opT (here Z) with
  | none => rfl
  | some op => simp only [h op hop, if_true]
/-- no operator behind it that would bind its parts away -/
def Stops (x : Ex) (Z : List Tok) : Prop := x.k = 4 → ∀ o, opT (here Z) = some o → lvlO (o : Int) ≤ lvlO x.op

section
variable {e : Nat}
theorem paren_of {m : Nat} {x : Ex} {l Z : List Tok} (hx : exprP e m (l ++ (sgT [41] :: Z)) = .ok (x, sgT [41] :: Z)) : unaryP e (m + 1) (sgT [40] :: (l ++ [sgT [41]]) ++ Z) = .ok (x, Z) := by
  have e1 : sgT [40] :: (l ++ [sgT [41]]) ++ Z = sgT [40] :: (l ++ (sgT [41] :: Z)) := by simp
  rw [e1]
  simp only [unaryP]
  have h1 : innerT (sgT [40] :: (l ++ (sgT [41] :: Z))) = true := by simp [innerT, isT_sg]
  rw [if_pos h1, here_cons, if_pos (by rfl)]
  have h2 : exprW (unaryP e m) (l ++ (sgT [41] :: Z)) = .ok (x, sgT [41] :: Z) := hx
  simp only [List.tail_cons, h2]
  have h3 : want e [41] (sgT [41] :: Z) = .ok Z := by rw [want_pos (by simp [isT_sg])]; rfl
  rw [h3]
theorem shw_dec {x : Int} (h : 0 ≤ x) : shw x = dec x.toNat := by
  unfold shw; rw [if_neg (by omega)]; congr 1; omega
theorem rightE_le {x : Ex} {d : Nat} (h : rightE x d = true) : d ≤ 64 := (rightE_iff.1 h).1
/-- the loop's fuel does not matter -/
theorem lf (m n n' : Nat) (lv : Int) (x : Ex) (Z : List Tok) (h : Z.length < n) (h' : Z.length < n') : loopE (unaryP e m) n lv x Z = loopE (unaryP e m) n' lv x Z :=
  loopE_fuel _ (unary_goes e m) (loopE_len _ (unary_goes e m)) n n' lv x Z h h'
theorem unary_sg {m : Nat} {k : Int} (hk : oneOp k = true) {r : List Tok} {x : Ex} {Z : List Tok} (h : unaryP e m r = .ok (x, Z)) : unaryP e (m + 1) (sgT (shwO k) :: r) = .ok (.mk 3 k 0 [] [x] 0, Z) := by
  simp only [oneOp, decide_eq_true_eq] at hk
  rcases hk with rfl | rfl
  · have e1 : shwO 17 = [45] := by decide
    simp only [unaryP, e1]
    rw [if_pos (by simp [innerT, isT_sg]), if_neg (by simp [here_cons, sgT])]
    simp only [List.tail_cons, h, here_cons, sgT] <;> rfl
  · have e1 : shwO 18 = [33] := by decide
    simp only [unaryP, e1]
    rw [if_pos (by simp [innerT, isT_sg]), if_neg (by simp [here_cons, sgT])]
    simp only [List.tail_cons, h, here_cons, sgT] <;> rfl
/-- an expression's tokens are read as it is, but for places -/
theorem tkE_read : ∀ (n : Nat) (x : Ex), SizeOf.sizeOf x = n → ∀ d, rightE x d = true → ∀ Z : List Tok,
    (x.k ≠ 4 → unaryP e (64 - d) (tkE x ++ Z) = .ok (zE x, Z)) ∧
    (∀ lv : Int, (x.k = 4 → lv ≤ lvlO x.op) → Stops x Z → climbE (unaryP e (64 - d)) lv (tkE x ++ Z) = loopE (unaryP e (64 - d)) (Z.length + 1) lv (zE x) Z) := by
  intro n
  refine Nat.strongRecOn n fun n ih => ?_
  intro x hn d hr Z
  have sub : ∀ y, y ∈ x.kids → ∀ d', rightE y d' = true → ∀ Z' : List Tok,
      (y.k ≠ 4 → unaryP e (64 - d') (tkE y ++ Z') = .ok (zE y, Z')) ∧
      (∀ lv : Int, (y.k = 4 → lv ≤ lvlO y.op) → Stops y Z' → climbE (unaryP e (64 - d')) lv (tkE y ++ Z') = loopE (unaryP e (64 - d')) (Z'.length + 1) lv (zE y) Z') := fun y hy d' hr' Z' => by
    have := memE_lt hy
    exact ih _ (by omega) y rfl d' hr' Z'
  -- in parentheses
  have inpar : ∀ y, y ∈ x.kids → ∀ d', rightE y (d' + 1) = true → ∀ Z' : List Tok, unaryP e (64 - d') (sgT [40] :: (tkE y ++ [sgT [41]]) ++ Z') = .ok (zE y, Z') := fun y hy d' hr' Z' => by
    have hle := rightE_le hr'
    have e1 : 64 - d' = (64 - (d' + 1)) + 1 := by omega
    rw [e1]
    refine paren_of ?_
    have h1 := (sub y hy _ hr' (sgT [41] :: Z')).2 1 (fun hk => ?_) (fun hk o ho => by rw [opT_par] at ho; cases ho)
    · rw [climbE_expr _ (unary_goes e _)] at h1
      show exprW (unaryP e (64 - (d' + 1))) _ = _
      rw [h1, loopE_stop]
      intro o ho; rw [opT_par] at ho; cases ho
    · rcases (rightE_iff.1 hr').2 with h | h | h | h
      · have := h.1; omega
      · have := h.1; omega
      · have := h.1; omega
      · obtain ⟨_, htwo, _⟩ := h
        obtain ⟨op, hop, e2⟩ := opT_sg htwo
        have := opT_lvl hop
        rw [e2] at this; exact this
  have hA : x.k ≠ 4 → unaryP e (64 - d) (tkE x ++ Z) = .ok (zE x, Z) := by
    intro h4
    have hcase := (rightE_iff.1 hr).2
    have hd := rightE_le hr
    cases x with
    | mk k op wd nm kids a =>
    simp only [exk, exop, exwd, exnm, exkids] at hcase h4 sub inpar
    rcases hcase with ⟨rfl, h1, rfl, rfl, rfl⟩ | ⟨rfl, h1, rfl, rfl, rfl⟩ | h | h
    · have e1 : tkE (.mk 1 0 wd [] [] a) ++ Z = nuT wd.toNat :: Z := by simp [tkE]
      rw [e1]
      have hl : leafP e (nuT wd.toNat :: Z) = .ok (zE (.mk 1 0 wd [] [] a), Z) := by
        simp only [leafP, here_cons, nuT, if_true, zE, trE, trEs, idS, List.tail_cons]
        rw [Int.toNat_of_nonneg h1]; rfl
      cases hm : 64 - d with
      | zero => simp only [unaryP]; rw [if_neg (by simp [innerT, isT_nu])]; exact hl
      | succ m => simp only [unaryP]; rw [if_neg (by simp [innerT, isT_nu])]; exact hl
    · have e1 : tkE (.mk 2 0 0 nm [] a) ++ Z = nmT nm :: Z := by simp [tkE]
      rw [e1]
      have hl : leafP e (nmT nm :: Z) = .ok (zE (.mk 2 0 0 nm [] a), Z) := by
        simp only [leafP, here_cons, nmT, zE, trE, trEs, idS, List.tail_cons]; simp
      cases hm : 64 - d with
      | zero => simp only [unaryP]; rw [if_neg (by simp [innerT, isT_nm])]; exact hl
      | succ m => simp only [unaryP]; rw [if_neg (by simp [innerT, isT_nm])]; exact hl
    · obtain ⟨rfl, hone, rfl, rfl, y, rfl, hy⟩ := h
      have e1 : tkE (.mk 3 op 0 [] [y] a) ++ Z = sgT (shwO op) :: (parT (decide (y.k = 4)) (tkE y) ++ Z) := by simp [tkE]
      rw [e1]
      have hle := rightE_le hy
      by_cases hy4 : y.k = 4
      · rw [if_pos hy4] at hy hle
        have e2 : 64 - d = (64 - (d + 1)) + 1 := by omega
        rw [e2]
        simp only [parT, hy4, decide_true, if_true]
        have := unary_sg (e := e) hone (inpar y (.head _) (d + 1) hy Z)
        rw [this]; simp only [zE, trE, trEs, idS]
      · rw [if_neg hy4] at hy hle
        have e2 : 64 - d = (64 - (d + 1)) + 1 := by omega
        rw [e2]
        simp only [parT, hy4, decide_false, Bool.false_eq_true, if_false]
        have := unary_sg (e := e) hone ((sub y (.head _) (d + 1) hy Z).1 hy4)
        rw [this]; simp only [zE, trE, trEs, idS]
    · exact absurd h.1 h4
  refine ⟨hA, fun lv hlv hst => ?_⟩
  by_cases h4 : x.k = 4
  · have hcase := (rightE_iff.1 hr).2
    have hd := rightE_le hr
    cases x with
    | mk k op wd nm kids a =>
    simp only [exk, exop, exwd, exnm, exkids] at hcase h4 sub inpar hlv
    rcases hcase with h | h | h | h
    · have := h.1; omega
    · have := h.1; omega
    · have := h.1; omega
    · obtain ⟨rfl, htwo, rfl, rfl, y, z, rfl, hy, hz⟩ := h
      change rightE y (if inn op y false = true then d + 1 else d) = true at hy
      change rightE z (if inn op z true = true then d + 1 else d) = true at hz
      have hlv := hlv rfl
      obtain ⟨o, ho, eo⟩ := opT_sg htwo
      have e1 : tkE (.mk 4 op 0 [] [y, z] a) ++ Z = parT (inn op y false) (tkE y) ++ (sgT (shwO op) :: (parT (inn op z true) (tkE z) ++ Z)) := by simp [tkE]
      rw [e1]
      obtain ⟨R, hR⟩ : ∃ R, R = parT (inn op z true) (tkE z) ++ Z := ⟨_, rfl⟩
      -- the second side
      have hsec : ∀ n', R.length < n' + 1 → ∃ r1 y1, unaryP e (64 - d) R = .ok (y1, r1) ∧ loopE (unaryP e (64 - d)) n' (lvlO op + 1) y1 r1 = .ok (zE z, Z) ∧ Z.length < R.length := by
        intro n' hn'
        have stop1 : ∀ o', opT (here Z) = some o' → lvlO (o' : Int) < lvlO op + 1 := fun o' ho' => by
          have := hst rfl o' ho'
          simp only [Ex.op] at this; omega
        cases hin : inn op z true with
        | true =>
          rw [hin] at hz hR
          simp only [if_true] at hz
          have h1 := inpar z (.tail _ (.head _)) d hz Z
          have e2 : R = sgT [40] :: (tkE z ++ [sgT [41]]) ++ Z := by rw [hR]; simp [parT]
          have hlt : Z.length < R.length := by rw [e2]; simp; omega
          refine ⟨Z, zE z, by rw [e2]; exact h1, ?_, hlt⟩
          obtain ⟨n'', rfl⟩ : ∃ n'', n' = n'' + 1 := ⟨n' - 1, by omega⟩
          exact loopE_stop _ _ _ _ _ stop1
        | false =>
          rw [hin] at hz hR
          simp only [Bool.false_eq_true, if_false] at hz
          have e2 : R = tkE z ++ Z := by rw [hR]; simp [parT]
          have hzl : z.k = 4 → lvlO op < lvlO z.op := fun hk => by
            unfold inn at hin
            simp only [hk, decide_true, Bool.true_and, Bool.or_eq_false_iff, decide_eq_false_iff_not] at hin
            omega
          have h1 := (sub z (.tail _ (.head _)) d hz Z).2 (lvlO op + 1) (fun hk => by have := hzl hk; omega) (fun hk o' ho' => by have := hzl hk; have := stop1 o' ho'; omega)
          rw [loopE_stop _ _ _ _ _ stop1] at h1
          rw [← e2] at h1
          unfold climbE at h1
          cases hu : unaryP e (64 - d) R with
          | error f => rw [hu] at h1; cases h1
          | ok p =>
            obtain ⟨y1, r1⟩ := p
            rw [hu] at h1
            simp only at h1
            have hg := unary_goes e _ _ _ _ hu
            have hZ := loopE_len _ (unary_goes e _) _ _ _ _ _ _ h1
            refine ⟨r1, y1, rfl, ?_, by omega⟩
            rw [← h1]
            exact lf _ _ _ _ _ _ (by omega) (by omega)
      -- the loop goes over the operator
      have hloop : ∀ n', R.length < n' → loopE (unaryP e (64 - d)) (n' + 1) lv (zE y) (sgT (shwO op) :: R) = loopE (unaryP e (64 - d)) (Z.length + 1) lv (zE (.mk 4 op 0 [] [y, z] a)) Z := by
        intro n' hn'
        obtain ⟨r1, y1, h1, h2, h3⟩ := hsec n' (by omega)
        simp only [loopE, here_cons, ho, List.tail_cons]
        rw [if_neg (by rw [eo]; omega), h1]
        simp only
        rw [eo, h2]
        simp only
        rw [lf _ n' (Z.length + 1) _ _ _ (by omega) (by omega)]
        simp only [binE, sgT, eo, zE, trE, trEs, idS] <;> rfl
      rw [← hR]
      cases hin : inn op y false with
      | true =>
        rw [hin] at hy
        simp only [if_true] at hy
        have h1 := inpar y (.head _) d hy (sgT (shwO op) :: R)
        simp only [parT, if_true]
        unfold climbE
        rw [h1]
        simp only
        exact hloop _ (by simp)
      | false =>
        rw [hin] at hy
        simp only [Bool.false_eq_true, if_false] at hy
        simp only [parT, Bool.false_eq_true, if_false]
        have hyl : y.k = 4 → lvlO op ≤ lvlO y.op := fun hk => by
          unfold inn at hin
          simp only [hk, decide_true, Bool.true_and, Bool.or_eq_false_iff, decide_eq_false_iff_not] at hin
          omega
        have h1 := (sub y (.head _) d hy (sgT (shwO op) :: R)).2 lv (fun hk => by have := hyl hk; omega) (fun hk o' ho' => by
          rw [here_cons, ho] at ho'; cases ho'; rw [eo]; exact hyl hk)
        rw [h1]
        exact hloop _ (by simp)
  · have h1 := hA h4
    unfold climbE
    rw [h1]
/-- an expression that stands alone, or ahead of what is no operator -/
theorem tkE_expr {x : Ex} (hr : rightE x 0 = true) {Z : List Tok} (hZ : opT (here Z) = none) : exprP e 64 (tkE x ++ Z) = .ok (zE x, Z) := by
  have h1 := (tkE_read (e := e) _ x rfl 0 hr Z).2 1 (fun hk => ?_) (fun hk o ho => by rw [hZ] at ho; cases ho)
  · rw [climbE_expr _ (unary_goes e _)] at h1
    show exprW (unaryP e (64 - 0)) _ = _
    rw [h1, loopE_stop]
    intro o ho; rw [hZ] at ho; cases ho
  · rcases (rightE_iff.1 hr).2 with h | h | h | h
    · have := h.1; omega
    · have := h.1; omega
    · have := h.1; omega
    · obtain ⟨_, htwo, _⟩ := h
      obtain ⟨op, hop, e2⟩ := opT_sg htwo
      have := opT_lvl hop
      rw [e2] at this; exact this
end
end ParS

