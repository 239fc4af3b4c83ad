/- A part of the proof: contracts of functions and plain laws; each theorem says its own conditions. -/
import Derived.Test.YtjoepkpdanolkaaGreatDoorTopReckonedK2
import Derived.Test.YtjoepkpdanolkaaGreatDoorTopReckonedK9
import Derived.Test.YtjoepkpdanolkaaGreatDoorTopReckonedK14
import Derived.Test.YtjoepkpdanolkaaGreatDoorTopReckonedK13
set_option linter.unusedVariables false
set_option linter.unusedSimpArgs false
namespace Go.Proofs.YtjoepkpdanolkaaGreatDoor
open Go.RowKit Sx LexS ParS _root_.Go.Proofs.Tryz
def xT : List UInt8 := [120, 32, 61, 32, 49, 50, 59]
theorem scanRes_xT : scanRes xT = ([⟨1, [120], 0, 0⟩, ⟨4, [61], 0, 2⟩, ⟨3, [49, 50], 12, 4⟩, ⟨4, [59], 0, 6⟩], 0, 0, 0) := by kernel_rfl
theorem scan_eqT (s : List UInt8) (T : List Tok) (e a r : Nat) (he : scanRes s = (T, e, a, r)) (w : World) : Ret Tryz.prog 15 [str s] w fun v w' => Chg [] w w' ∧ ∃ oa cap, v = .tuple [.slice oa T.length cap, .int .i64 (e : Int), .agg [.int .i64 (a : Int), .int .i64 (r : Int)].toArray].toArray ∧
    w'.ownsRow w.heap.size 65 4 (.slice oa T.length cap) T.length (toksL T) ∧ (0 < T.length → ∃ b, oa = some ⟨b, 0, none⟩) :=
 (scan_any s w).mono fun v w' ⟨c, oa, cap, hv, ho⟩ => by
  rw [he] at hv ho
  refine ⟨c, oa, cap, hv, ho, fun h => ?_⟩
  obtain ⟨b, cap', e, _⟩ := own_form ho h
  simp only [Value.slice.injEq] at e
  exact ⟨b, e.1⟩

set_option maxHeartbeats 1000000 in
theorem tbegins_any (w : World) : Ret Tryz.prog 4 [] w fun v w' => v = .bool true ∧ Chg [] w w' := by
 refine ret_of [] func4 rfl ntmps4 rfl ?_
 have st := St.init w []
 refine sr ?_
 refine ya ?_
 refine et (vc_keep [] trivial (sr ?_))
 refine vc_e (e_call [_, _, _] rfl rfl call14 rfl (do_any 1 (by decide) 2 3 _) ?_)
 rintro _ w ⟨rfl, cw⟩
 replace st := st.call0 cw
 rw [show wTwo ((1 : Nat) : Int) 2 3 = 5 from by decide]
 refine ym ?_
 iterate 2 refine vy (y_ext rfl rfl) ?_
 iterate 2 refine ya ?_
 refine et (vk2 1 2 (sr ?_))
 refine vc_e (e_call [_] rfl rfl call15 rfl (scan_eqT xT _ _ _ _ scanRes_xT _) ?_)
 rintro _ w ⟨cw, oa, cap, rfl, how, hb⟩
 obtain ⟨bx, rfl⟩ := hb (by decide)
 replace st := st.pushOwn cw how
 refine ym ?_
 iterate 3 refine vy (y_ext rfl rfl) ?_
 refine vc_e (e_al (l := [_, _]) st rfl rfl zeroValue30 rfl ?_)
 intro b5 w hb5 st
 iterate 2 refine ya ?_
 refine vc_e (ests st 0 [_, _] sizeOf30 ?_)
 intro w st; dsimp only [setNth, wr] at st
 refine et (vk4 1 2 3 4 (sr ?_))
 refine ym ?_
 refine vy (y_eqi rfl rfl) ?_
 refine vmb ?_ ?_
 ·intro hg17
  try simp only [dn] at hg17
  refine ym ?_
  refine vy (y_eqi rfl rfl) ?_
  refine ypt ?_
  refine vmb ?_ ?_
  ·intro hg21
   try simp only [dn] at hg21
   refine vc_e (e_call [_] rfl rfl call16 rfl (wprint_any (-7) _ (by omega)) ?_)
   rintro _ w ⟨rfl, cw⟩
   replace st := st.call0 cw
   have h7 : shw (-7) = [45, 55] := by kernel_rfl
   rw [h7]
   refine vy (y_eqs rfl rfl) ?_
   refine ypt ?_
   refine vmb ?_ ?_
   ·intro hg25
    try simp only [dn] at hg25
    refine ym ?_
    refine vy (y_eqi rfl rfl) ?_
    refine ypt ?_
    refine vmb ?_ ?_
    ·intro hg29
     try simp only [dn] at hg29
     refine ym ?_
     refine vy (y_lensl rfl underlying59) ?_
     refine vy (y_eqi rfl rfl) ?_
     refine ypt ?_
     refine vmb ?_ ?_
     ·intro hg34
      try simp only [dn] at hg34
      refine ym ?_
      refine vy ((by exact y_ia0 (k := 2) rfl rfl underlying59 sizeOf65 rfl (by omega))) ?_
      refine vy ((by exact y_fa (k := 2) rfl underlying65 rfl rfl sizeOf2 rfl)) ?_
      refine vy ((by exact y_ldo st 1 rfl isAgg2 rfl rfl)) ?_
      refine vy (y_eqi rfl rfl) ?_
      refine ypt ?_
      refine vmb ?_ ?_
      ·intro hg41
       try simp only [dn] at hg41
       refine ym ?_
       refine vy ((by exact y_ia0 (k := 2) rfl rfl underlying59 sizeOf65 rfl (by omega))) ?_
       refine vy (y_fa0 rfl underlying65 rfl rfl sizeOf63 rfl) ?_
       refine vy ((by exact y_ldo st 1 rfl isAgg63 rfl rfl)) ?_
       refine vy (y_eqi rfl rfl) ?_
       refine ypt ?_
       refine ya ?_
       refine et (vk1 0 (vc_ret ?_))
       refine vr1 st results4 ?_
       exact ⟨by rfl, st.chg⟩
      intro hg41
      exfalso; revert hg41; decide
     intro hg34
     exfalso; revert hg34; decide
    intro hg29
    exfalso; revert hg29; decide
   intro hg25
   exfalso; revert hg25; decide
  intro hg21
  exfalso; revert hg21; decide
 intro hg17
 exfalso; revert hg17; decide
/-- the tree of the text, as it lies there -/
theorem prg_rows {w : World} {y : Ex} {a b : Int} {os ol ot : Option Addr} {cs cl ct : Nat} {B : List Nat} (h : PgS 27 171 95 143 w (prgP y a b) (pgC (prgP y a b) os ol ot cs cl ct) B) (hd : ∃ d0, rightE y d0 = true) (hk : (rkX y).2 = true) (hsz : szE y ≤ 3000000) :
    ∃ tb to_ oc ob cc cb, ot = some ⟨tb, to_, none⟩ ∧ tb < w.heap.size ∧ Pr1 w.heap.size w ob y ∧ ∀ (i : Nat) v, ([str [97], .slice oc 0 cc, .slice ob 1 cb, .int .i64 b] : List Value)[i]? = some v → w.cell? ⟨tb, to_ + 0 * 4 + i, none⟩ = some v := by
 obtain ⟨os', cs', ol', cl', ot', ct', e, h1, h2, h3⟩ := PgS.toV h (T := (· < w.heap.size)) (fun b hb => PgS.lt h b hb)
 simp only [List.cons.injEq, Value.slice.injEq, and_true, true_and] at e
 obtain ⟨⟨rfl, -⟩, ⟨rfl, -⟩, rfl, -⟩ := e
 obtain ⟨tb, to_, rfl, -, htl, ht⟩ := ThRow.at h3 (Nat.zero_lt_one : 0 < (prgP y a b).threads.length)
 obtain ⟨oc, ob, cc, cb, -, hS, hc⟩ := ht 0 _ rfl
 obtain ⟨sb, so, rfl, -, hsl, hs⟩ := SmRow.at hS Nat.zero_lt_one
 obtain ⟨oe, v2, v3, ce, c2, c3, -, hE, -, -, hsc⟩ := hs 0 _ rfl
 obtain ⟨gb, go, rfl, -, hgl, he⟩ := ExRow.at hE Nat.zero_lt_one
 obtain ⟨o0, c0, hV, -, hec⟩ := he 0 _ rfl
 exact ⟨tb, to_, oc, _, cc, cb, rfl, htl, ⟨sb, so, _, ce, v2, v3, c2, c3, a, rfl, hsl, ⟨hd, hk, hsz, gb, go, o0, c0, rfl, hgl, hV, hec⟩, hsc⟩, hc⟩
abbrev nfX (x : Ex) : List Nd := ((low x 0).1 ++ [Nd.prt (low x 0).2.2]) ++ [Nd.fin]

set_option maxHeartbeats 1000000 in
theorem unit_any (x : Ex) (hr : rightE x 0 = true) (hk : (rkX x).2 = true) (hok : OkE x) (w : World) (hsg : Sig w) : Ret Tryz.prog 8 [str (prgT x)] w fun v w' => Chg [] w w' ∧ (v = .tuple #[.agg [.slice none 0 0, .slice none 0 0, .slice none 0 0].toArray, .bool false] ∨ ∃ o1 c1 o2 c2 gb gc nb nc, v = .tuple #[.agg [.slice o1 0 c1, .slice o2 0 c2, .slice (some ⟨gb, 0, none⟩) 1 gc].toArray, .bool true] ∧ (nfX x).length ≤ 4096 ∧ w.heap.size ≤ gb ∧ w.heap.size ≤ nb ∧ UG w' gb nb nc (nfX x) (low x 0).2.1) := by
 refine ret_of [_] func8 rfl ntmps8 rfl ?_
 have st := St.init w []
 obtain ⟨w0, rfl⟩ : ∃ w0, w0 = w := ⟨_, rfl⟩
 obtain ⟨q, e1, fp, fr0, hR⟩ : ∃ q e1 fp fr, parseRes (prgT x) = (q, e1, fp, fr) := ⟨_, _, _, _, rfl⟩
 refine sr ?_
 refine vc_e (e_al (l := [_, _, _]) st rfl rfl zeroValue40 rfl ?_)
 intro b2 w hb2 st
 refine ya ?_
 refine et (vk2 0 2 (sr ?_))
 refine ym ?_
 refine vc_e (e_call [_] rfl rfl call24 rfl (Pq.parse_any (prgT x) _ (SigAt.kept hsg st.chg (by simp))) ?_)
 rintro _ w h
 rw [Pq.ParsePost, hR] at h
 dsimp only at h
 obtain ⟨cw, _, ⟨os, ol, ot, cs, cl, ct, Sq, rfl, hQ, hNw⟩, rfl⟩ := h
 replace st := st.pushR cw (Sx.holds_pg hQ) (hNw.le (Nat.le_refl _)).2
 refine ym ?_
 iterate 3 refine vy (y_ext rfl rfl) ?_
 refine vc_e (e_al (l := [_, _, _]) st rfl rfl zeroValue81 rfl ?_)
 intro b4 w hb4 st
 refine vc_e (e_al (l := [_, _]) st rfl rfl zeroValue30 rfl ?_)
 intro b6 w hb6 st
 refine vc_e (ests st 1 [_, _, _] sizeOf81 ?_)
 intro w st; dsimp only [setNth, wr] at st
 refine ya ?_
 refine vc_e (ests st 0 [_, _] sizeOf30 ?_)
 intro w st; dsimp only [setNth, wr] at st
 refine et (vk3 2 4 5 (vc_seq (sr ?_)))
 refine ym ?_
 refine vy (y_nei rfl rfl) ?_
 refine et (vk3 2 4 15 ?_)
 refine vif ?_ ?_
 ·intro hc15
  try simp only [dn] at hc15
  refine sr ?_
  refine vy (ybd (.agg #[_, _, _]) []) ?_
  refine vc_e (ests st 3 [_, _, _] sizeOf40 ?_)
  intro w st; dsimp only [setNth, wr] at st
  refine ya ?_
  refine et (vk2 2 3 (vc_ret (vq_then_ret ?_)))
  refine vq_ret2 st (.inl rfl) results8 (by exact .cell 3 rfl rfl isAgg40 sizeOf40) (.tmp rfl) ?_
  refine ⟨_, rfl, ?_⟩
  exact ⟨st.chg, .inl rfl⟩
 intro hc15
 try simp only [dn] at hc15
 have he1 : e1 = 0 := by omega
 subst he1
 obtain ⟨y, a, b, hy, hz⟩ := parse_prg hr hok (by rw [hR])
 have hq := hR.symm.trans hy
 simp only [Prod.mk.injEq, true_and] at hq
 obtain ⟨rfl, -, -⟩ := hq
 have hry : rightE y 0 = true := by rw [rightE_same hz]; exact hr
 have hky : (rkX y).2 = true := by rw [rkX_same hz]; exact hk
 have hlow := low_same hz 0
 have hszy := prg_sz hR
 refine kt (vk2 2 4 (sr ?_))
 refine vy ((by exact y_lda (vs := [_, _, _]) st 1 rfl isAgg81 sizeOf81 rfl rfl)) ?_
 obtain ⟨tb, to_, oc, ob, cc, cb, rfl, htl, hp1, hcell⟩ := prg_rows (st.res (i := 2) rfl).1 ⟨0, hry⟩ hky (by omega)
 refine vc_e (e_call [_] rfl rfl call25 rfl (llower_any _ _ oc ob _ _ _ cc cb tb to_ b y _ _ (Nat.le_refl _) htl hp1 hcell) ?_)
 rintro _ w ⟨cw, hL⟩
 have hge := st.chg.size
 rw [hlow] at hL
 rcases hL with ⟨k, rfl, hk0⟩ | ⟨p1, k1, p2, k2, gb, gc, nb, nc, rfl, hle, hgb, hnb, hug⟩
 ·replace st := st.call0 cw
  refine ym ?_
  iterate 2 refine vy (y_ext rfl rfl) ?_
  refine vc_e (e_al (l := [_, _, _]) st rfl rfl zeroValue40 rfl ?_)
  intro b7 w hb7 st
  refine vc_e (ests st 0 [_, _, _] sizeOf40 ?_)
  intro w st; dsimp only [setNth, wr] at st
  refine ya ?_
  refine et (vk3 2 5 7 (sr ?_))
  refine vy ((by exact y_lda (vs := [_, _, _]) st 0 rfl isAgg40 sizeOf40 rfl rfl)) ?_
  refine ym ?_
  refine vy (y_eqi rfl rfl) ?_
  refine vc_e (ests st 4 [_, _, _] sizeOf40 ?_)
  intro w st; dsimp only [setNth, wr] at st
  refine ya ?_
  refine et (vk2 2 3 (vc_ret ?_))
  refine vq_ret2 st (.inl rfl) results8 (by exact .cell 4 rfl rfl isAgg40 sizeOf40) (.tmp rfl) ?_
  refine ⟨_, rfl, ?_⟩
  exact ⟨st.chg, .inl (by rw [decide_eq_false hk0])⟩
 ·replace st := st.pushR cw (ug_holds hug (by simp)) (fun q hq => by simp [Res.at?] at hq; omega)
  refine ym ?_
  iterate 2 refine vy (y_ext rfl rfl) ?_
  refine vc_e (e_al (l := [_, _, _]) st rfl rfl zeroValue40 rfl ?_)
  intro b7 w hb7 st
  refine vc_e (ests st 0 [_, _, _] sizeOf40 ?_)
  intro w st; dsimp only [setNth, wr] at st
  refine ya ?_
  refine et (vk3 2 5 7 (sr ?_))
  refine vy ((by exact y_lda (vs := [_, _, _]) st 0 rfl isAgg40 sizeOf40 rfl rfl)) ?_
  refine ym ?_
  refine vy (y_eqi rfl rfl) ?_
  refine vc_e (ests st 5 [_, _, _] sizeOf40 ?_)
  intro w st; dsimp only [setNth, wr] at st
  refine ya ?_
  refine et (vk2 2 3 (vc_ret ?_))
  refine vq_ret2 st (.inl rfl) results8 (by exact .cell 5 rfl rfl isAgg40 sizeOf40) (.tmp rfl) ?_
  refine ⟨_, rfl, ?_⟩
  refine ⟨st.chg, .inr ⟨p1, k1, p2, k2, gb, gc, nb, nc, rfl, hle, by omega, by omega, ?_⟩⟩
  obtain ⟨hU, -, -⟩ := st.res (i := 1) rfl
  exact hU
end Go.Proofs.YtjoepkpdanolkaaGreatDoor


namespace Go.Proofs.YtjoepkpdanolkaaGreatDoor
open Go.RowKit Sx LexS ParS _root_.Go.Proofs.Tryz
theorem fieldsP : (Tryz.prog.fieldsOf 55).toList.map (fun f => (f.name, f.type, f.offset)) = [("Thread", 3, 0), ("Word", 2, 1)] := by kernel_rfl
theorem eqFieldsP (z : Int) (w : World) : (Op.eqFields 9999 [.int .i64 0, .int .i64 z].toArray [.int .i64 0, .int .i64 z].toArray (Tryz.prog.fieldsOf 55).toList).run Tryz.prog w = .ok true w := by
 have h := fieldsP
 match hf : (Tryz.prog.fieldsOf 55).toList with
 | [a, b] =>
  rw [hf] at h
  simp only [List.map_cons, List.map_nil, List.cons.injEq, Prod.mk.injEq, and_true] at h
  obtain ⟨⟨a1, a2, a3⟩, b1, b2, b3⟩ := h
  have e1 : ∀ w, (part 3 [.int .i64 0, .int .i64 z].toArray 0).run Tryz.prog w = .ok (.int .i64 0) w := fun w => run_part1 isAgg3 rfl
  have e2 : ∀ w, (part 2 [.int .i64 0, .int .i64 z].toArray 1).run Tryz.prog w = .ok (.int .i64 z) w := fun w => run_part1 isAgg2 rfl
  have r1 := run_equalIn_int (P := Tryz.prog) w 9998 3 .i64 .i64 0 0 underlying3
  have r2 := run_equalIn_int (P := Tryz.prog) w 9998 2 .i64 .i64 z z underlying2
  simp only [Op.eqFields, a1, a2, a3, b1, b2, b3, Sem.run_bind, Sem.run_ite, e1, e2, Result.andThen_ok]
  simp only [ne_eq, String.reduceEq, not_false_eq_true, if_true, Sem.run_bind, Sem.run_ite, e1, e2, r1, r2, Result.andThen_ok, Sem.run_pure]
  simp
 | [] => rw [hf] at h; simp at h
 | [_] => rw [hf] at h; simp at h
 | _ :: _ :: _ :: _ => rw [hf] at h; simp at h
section
variable {n : Fr} {kn : Kn} {w : World} {d ty : Nat} {pos : String} {aft : Array Edge} {g : Option (Nat × Bool)}
theorem y_eqP {U : Nat} {x y : Operand} (z : Int) (hx : evO kn x = some (.agg [.int .i64 0, .int .i64 z].toArray)) (hy : evO kn y = some (.agg [.int .i64 0, .int .i64 z].toArray)) : Y Tryz.prog n kn w ⟨some d, .binOp .eql 55 x y U, ty, pos, aft, g⟩ (.bool true) :=
 y_bo hx hy (by
   have h1 := run_eqGuard_agg (P := Tryz.prog) w .eql 55 x y [.int .i64 0, .int .i64 z].toArray [.int .i64 0, .int .i64 z].toArray (by kernel_rfl)
   have h2 := run_eql_struct (P := Tryz.prog) w 55 [.int .i64 0, .int .i64 z].toArray [.int .i64 0, .int .i64 z].toArray
   rw [run_equalIn_agg w 9999 55 _ _ (by kernel_rfl) (by kernel_rfl), eqFieldsP] at h2
   simp only [Sem.run_bind, h1, Result.andThen_ok]
   have h3 : (binOp .eql 55 (.agg [.int .i64 0, .int .i64 z].toArray) (.agg [.int .i64 0, .int .i64 z].toArray)).run Tryz.prog w = .ok (.bool true) w := by rw [h2]; rfl
   exact h3)
end
theorem st3 {w0 w : World} {M : List Nat} {a b c : Nat} {p1 p2 p3 : Obj} (ch : Chg M w0 w) (nd : [a, b, c].Nodup) (h1 : w.heap[a]? = some p1) (h2 : w.heap[b]? = some p2) (h3 : w.heap[c]? = some p3) : St w0 M [.blk a p1, .blk b p2, .blk c p3] w := by
 simp only [List.nodup_cons, List.mem_cons, List.not_mem_nil, or_false, not_or, List.nodup_nil, and_true] at nd
 exact (((⟨ch, List.Pairwise.nil, by simp⟩ : St w0 M [] w).addB h3 (by simp)).addB h2 (by simp [blk_at]; omega)).addB h1 (by simp [blk_at]; omega)
theorem nf_at (x : Ex) {k : Nat} (hk : k ≤ (low x 0).1.length + 1) : ∃ nd, (nfX x)[k]? = some nd ∧ ((k < (low x 0).1.length ∧ (low x 0).1[k]? = some nd) ∨ (k = (low x 0).1.length ∧ nd = .prt (low x 0).2.2) ∨ (k = (low x 0).1.length + 1 ∧ nd = .fin)) := by
 rcases Nat.lt_trichotomy k (low x 0).1.length with h | h | h
 ·refine ⟨(low x 0).1[k], ?_, .inl ⟨h, List.getElem?_eq_getElem h⟩⟩
  rw [nfX, List.append_assoc, List.getElem?_append_left h, List.getElem?_eq_getElem h]
 ·subst h
  refine ⟨_, ?_, .inr (.inl ⟨rfl, rfl⟩)⟩
  rw [nfX, List.append_assoc, List.getElem?_append_right (Nat.le_refl _)]
  simp
 ·have e : k = (low x 0).1.length + 1 := by omega
  subst e
  refine ⟨_, ?_, .inr (.inr ⟨rfl, rfl⟩)⟩
  rw [nfX, List.getElem?_append_right (by simp)]
  simp
/-- the machine's prints, from what they are held as -/
def pvQ : Option (Nat × Nat) → Value
 | none => .slice none 0 0
 | some (pb, pc) => .slice (some ⟨pb, 0, none⟩) 1 pc
theorem two_cells {w : World} {pb : Nat} {a b : Value} (h0 : w.cell? ⟨pb, 0, none⟩ = some a) (h1 : w.cell? ⟨pb, 1, none⟩ = some b) : ∀ (i : Nat) v, [a, b][i]? = some v → w.cell? ⟨pb, i, none⟩ = some v := by
 rintro (_ | _ | i) v hv
 ·cases hv; exact h0
 ·cases hv; exact h1
 ·simp at hv
def sg (x : Ex) (k : Nat) : List Int := ParS.runN (List.replicate (low x 0).2.1 0) ((low x 0).1.take k)
def QOk (x : Ex) (k : Nat) (q : Option (Nat × Nat)) (w : World) : Prop := (k ≤ (low x 0).1.length ∧ q = none) ∨ (k = (low x 0).1.length + 1 ∧ ∃ pb pc, q = some (pb, pc) ∧ w.cell? ⟨pb, 0, none⟩ = some (.int .i64 0) ∧ w.cell? ⟨pb, 1, none⟩ = some (.int .i64 (vlW (sg x (low x 0).1.length) (low x 0).2.2)))
theorem QOk.kept {x : Ex} {k : Nat} {q : Option (Nat × Nat)} {w w' : World} (h : QOk x k q w) (ch : Chg [] w w') : QOk x k q w' := by
 rcases h with h | ⟨h, pb, pc, e, h1, h2⟩
 ·exact .inl h
 ·exact .inr ⟨h, pb, pc, e, ch.cell h1 (by simp), ch.cell h2 (by simp)⟩
theorem QOk.le {x : Ex} {k : Nat} {q : Option (Nat × Nat)} {w : World} (h : QOk x k q w) : k ≤ (low x 0).1.length + 1 := by rcases h with ⟨h, -⟩ | ⟨h, -⟩ <;> omega
theorem nf_end {x : Ex} {k : Nat} {nd : Nd} (hr : rightE x 0 = true) (hk : (rkX x).2 = true) (h : (k < (low x 0).1.length ∧ (low x 0).1[k]? = some nd) ∨ (k = (low x 0).1.length ∧ nd = .prt (low x 0).2.2) ∨ (k = (low x 0).1.length + 1 ∧ nd = .fin)) (h9 : nK nd = 9) : k = (low x 0).1.length + 1 ∧ nd = .fin := by
 rcases h with ⟨h, h2⟩ | ⟨h, rfl⟩ | h
 ·have hn := (low_good _ x rfl 0 hr hk 0).ok nd (List.mem_of_getElem? h2)
  exfalso
  cases nd with
  | set a b c d => exact absurd (show (1 : Int) = 9 from h9) (by decide)
  | prt a => exact hn.elim
  | fin => exact hn.elim
 ·exact absurd (show (7 : Int) = 9 from h9) (by decide)
 ·exact h
theorem nf_step {x : Ex} {k : Nat} {nd : Nd} (h : (k < (low x 0).1.length ∧ (low x 0).1[k]? = some nd) ∨ (k = (low x 0).1.length ∧ nd = .prt (low x 0).2.2) ∨ (k = (low x 0).1.length + 1 ∧ nd = .fin)) (h9 : nK nd ≠ 9) : (k < (low x 0).1.length ∧ (low x 0).1[k]? = some nd) ∨ (k = (low x 0).1.length ∧ nd = .prt (low x 0).2.2) := by
 rcases h with h | h | ⟨-, rfl⟩
 ·exact .inl h
 ·exact .inr h
 ·exact absurd rfl h9
theorem nf_set {x : Ex} {k : Nat} {nd : Nd} (hr : rightE x 0 = true) (hk : (rkX x).2 = true) (h : (low x 0).1[k]? = some nd) : ∃ (mm t : Nat) (va vb : Vl), nd = .set (mm : Int) t va vb := by
 have hn := (low_good _ x rfl 0 hr hk 0).ok nd (List.mem_of_getElem? h)
 cases nd with
 | set op t a b => exact ⟨op.toNat, t, a, b, by rw [Int.toNat_of_nonneg (Int.le_of_lt hn.1)]⟩
 | prt a => exact hn.elim
 | fin => exact hn.elim
theorem sg_len (x : Ex) (k : Nat) : (sg x k).length = (low x 0).2.1 := by rw [sg, runN_len]; simp

set_option maxHeartbeats 2000000 in
theorem lawTopReckoned (s : List UInt8) (w : World) (hsg : Sig w) : Ret Tryz.prog 3 [str s] w fun v w' => v = .bool true ∧ Chg [] w w' := by
 refine ret_of [_] func3 rfl ntmps3 rfl ?_
 have st := St.init w []
 obtain ⟨w0, rfl⟩ : ∃ w0, w0 = w := ⟨_, rfl⟩
 obtain ⟨x, e1, fp, fr0, hR⟩ : ∃ x e1 fp fr, exprRes s = (x, e1, fp, fr) := ⟨_, _, _, _, rfl⟩
 refine sr ?_
 refine ya ?_
 refine et (vk1 0 (vc_seq (sr ?_)))
 refine vc_e (e_call [] rfl rfl call4 rfl (tbegins_any _) ?_)
 rintro _ w ⟨rfl, cw⟩
 replace st := st.call0 cw
 refine vy (y_not rfl) ?_
 refine et (vk2 0 14 ?_)
 refine vif ?_ ?_
 ·intro hc14
  exfalso; revert hc14; decide
 intro hc14
 try simp only [dn] at hc14
 refine kt (vk1 0 (sr ?_))
 refine ym ?_
 refine vc_e (e_call [_] rfl rfl call5 rfl (Pq.expr_any s _ (SigAt.kept hsg st.chg (by simp))) ?_)
 rintro _ w h
 rw [Pq.ExprPost, hR] at h
 dsimp only at h
 obtain ⟨cw, _, ⟨oq, cq, Sq, rfl, hE, hNw⟩, rfl⟩ := h
 replace st := st.pushR cw (Sx.holds_ex hE) (hNw.le (Nat.le_refl _)).2
 refine ym ?_
 iterate 3 refine vy (y_ext rfl rfl) ?_
 refine vc_e (e_al (l := [_, _, _, _, _, _]) st rfl rfl zeroValue27 rfl ?_)
 intro b3 w hb3 st
 refine vc_e (e_al (l := [_, _]) st rfl rfl zeroValue30 rfl ?_)
 intro b5 w hb5 st
 refine vc_e (ests st 1 [_, _, _, _, _, _] sizeOf27 ?_)
 intro w st; dsimp only [setNth, wr] at st
 refine ya ?_
 refine vc_e (ests st 0 [_, _] sizeOf30 ?_)
 intro w st; dsimp only [setNth, wr] at st
 refine et (vk2 3 4 (vc_seq (sr ?_)))
 refine ym ?_
 refine vy (y_nei rfl rfl) ?_
 refine et (vk2 3 22 ?_)
 refine vif ?_ ?_
 ·intro hc22
  try simp only [dn] at hc22
  refine sr ?_
  refine ya ?_
  refine et (vk1 2 (vc_ret (vq_then_ret ?_)))
  refine vr1 st results3 ?_
  exact ⟨rfl, st.chg⟩
 intro hc22
 try simp only [dn] at hc22
 have he1 : e1 = 0 := by omega
 subst he1
 obtain ⟨hok, hr, hsz⟩ := exprRes_rk hR
 have hV : ∀ {w1 w2 : World}, ExR 27 w1 oq cq x.kids Sq → (∀ b ∈ Sq, b < w2.heap.size) → ExV w1 (· < w2.heap.size) x (exC x oq cq) := fun h hl => ExS.toV (ExS_iff.2 ⟨oq, cq, rfl, h⟩) hl
 have hlen := txtE_len _ x rfl hok
 have hT : ((exprT x).2 = 0 ∧ (exprT x).1 = txtE x ∧ (txtE x).length ≤ 65536) ∨ (exprT x).2 = 4 := by
  unfold exprT
  rw [if_pos hr]
  split
  ·exact .inl ⟨rfl, rfl, by assumption⟩
  ·exact .inr rfl
 refine kt (vk1 3 (sr ?_))
 refine vy ((by exact y_lda (vs := [_, _, _, _, _, _]) st 1 rfl isAgg27 sizeOf27 rfl rfl)) ?_
 refine vc_e (e_call [_] rfl rfl call6 rfl (reckoned_any _ x rfl 0 hr _ _ (hV (w2 := w) (st.res (i := 2) rfl).1 (st.res (i := 2) rfl).1.lt)) ?_)
 rintro _ w ⟨rfl, cw⟩
 replace st := st.call0 cw
 refine ym ?_
 iterate 2 refine vy (y_ext rfl rfl) ?_
 iterate 2 refine ya ?_
 refine et (vk3 3 6 7 (sr ?_))
 refine vy ((by exact y_lda (vs := [_, _, _, _, _, _]) st 1 rfl isAgg27 sizeOf27 rfl rfl)) ?_
 refine vc_e (e_call [_] rfl rfl call7 rfl (exprT_any x hok _ _ (hV (w2 := w) (st.res (i := 2) rfl).1 (st.res (i := 2) rfl).1.lt) (hsg.kept st.chg) (by omega)) ?_)
 rintro _ w ⟨rfl, cw⟩
 replace st := st.call0 cw
 refine ym ?_
 iterate 2 refine vy (y_ext rfl rfl) ?_
 iterate 2 refine ya ?_
 refine et (vk4 4 6 7 8 (vc_seq (sr ?_)))
 refine ym ?_
 refine vy (y_not rfl) ?_
 refine vmb ?_ ?_
 ·intro hg35
  try simp only [dn] at hg35
  iterate 2 refine vsk ?_
  refine ypt ?_
  refine et (vk5 4 6 7 8 38 ?_)
  refine vc_ift rfl ?_
  refine sr ?_
  refine ym ?_
  refine vy (y_not rfl) ?_
  refine vmb ?_ ?_
  intro hg41
  try simp only [dn] at hg41
  iterate 2 refine vsk ?_
  refine ypt ?_
  rotate_left
  intro hg41
  try simp only [dn] at hg41
  refine ym ?_
  refine vy (y_eqi rfl rfl) ?_
  refine ypf ?_
  all_goals
   refine ya ?_
   refine et (vk1 2 (vc_ret (vq_then_ret ?_)))
   refine vr1 st results3 ?_
   first
   | exact ⟨rfl, st.chg⟩
   | (exfalso; simp_all; done)
 intro hg35
 try simp only [dn] at hg35
 refine ym ?_
 refine vy (y_nei rfl rfl) ?_
 refine ypf ?_
 refine et (vk5 4 6 7 8 38 ?_)
 refine vif ?_ ?_
 ·intro hc38
  try simp only [dn] at hc38
  refine sr ?_
  refine ym ?_
  refine vy (y_not rfl) ?_
  refine vmb ?_ ?_
  intro hg41
  try simp only [dn] at hg41
  iterate 2 refine vsk ?_
  refine ypt ?_
  rotate_left
  intro hg41
  try simp only [dn] at hg41
  refine ym ?_
  refine vy (y_eqi rfl rfl) ?_
  refine ypf ?_
  all_goals
   refine ya ?_
   refine et (vk1 2 (vc_ret (vq_then_ret ?_)))
   refine vr1 st results3 ?_
   first
   | exact ⟨rfl, st.chg⟩
   | exact ⟨by rw [hT.resolve_left (fun h => by omega)]; rfl, st.chg⟩
 intro hc38
 try simp only [dn] at hc38
 obtain ⟨h0, h1, h2⟩ := hT.resolve_right (fun h => by omega)
 have hk : (rkX x).2 = true := by simp_all
 have hU := unit_any x hr hk hok
 rw [show prgT x = [116, 104, 114, 101, 97, 100, 32, 97, 32, 123, 32, 112, 114, 105, 110, 116, 32] ++ (exprT x).1 ++ [59, 32, 125] from by rw [h1]; rfl] at hU
 have h3 : (exprT x).1.length ≤ 65536 := by rw [h1]; exact h2
 refine kt (vk2 6 8 (sr ?_))
 refine ym ?_
 refine vy (y_cat rfl rfl (by simp only [List.length_cons, List.length_nil]; omega)) ?_
 refine vy (y_cat rfl rfl (by simp only [List.length_append, List.length_cons, List.length_nil]; omega)) ?_
 refine vc_e (e_call [_] rfl rfl call8 rfl (hU _ (hsg.kept st.chg)) ?_)
 rintro _ w ⟨cw, hL⟩
 have hge := st.chg.size
 rcases hL with rfl | ⟨p1, k1, p2, k2, gb, gc, nb, nc, rfl, hle, hgb, hnb, hug⟩
 ·replace st := st.call0 cw
  refine ym ?_
  iterate 2 refine vy (y_ext rfl rfl) ?_
  refine vc_e (e_al (l := [_, _, _]) st rfl rfl zeroValue40 rfl ?_)
  intro b9 w hb9 st
  refine vc_e (ests st 0 [_, _, _] sizeOf40 ?_)
  intro w st; dsimp only [setNth, wr] at st
  refine ya ?_
  refine et (vk3 6 7 9 (vc_seq (sr ?_)))
  refine ym ?_
  refine vy (y_not rfl) ?_
  refine et (vk3 6 9 53 ?_)
  refine vif ?_ ?_
  ·intro hc53
   try simp only [dn] at hc53
   refine sr ?_
   refine ya ?_
   refine et (vk1 2 (vc_ret (vq_then_ret ?_)))
   refine vr1 st results3 ?_
   exact ⟨rfl, st.chg⟩
  intro hc53
  exfalso; revert hc53; decide
 ·replace st := st.pushR cw (ug_holds hug (by simp)) (fun q hq => by simp [Res.at?] at hq; omega)
  refine ym ?_
  iterate 2 refine vy (y_ext rfl rfl) ?_
  refine vc_e (e_al (l := [_, _, _]) st rfl rfl zeroValue40 rfl ?_)
  intro b9 w hb9 st
  refine vc_e (ests st 0 [_, _, _] sizeOf40 ?_)
  intro w st; dsimp only [setNth, wr] at st
  refine ya ?_
  refine et (vk3 6 7 9 (vc_seq (sr ?_)))
  refine ym ?_
  refine vy (y_not rfl) ?_
  refine et (vk3 6 9 53 ?_)
  refine vif ?_ ?_
  ·intro hc53
   exfalso; revert hc53; decide
  intro hc53
  try simp only [dn] at hc53
  refine kt (vk2 6 9 (sr ?_))
  refine vy ((by exact y_lda (vs := [_, _, _]) st 0 rfl isAgg40 sizeOf40 rfl rfl)) ?_
  refine vc_e (e_call [_] rfl rfl call9 rfl (new_any (nfX x) (low x 0).2.1 gb nb gc nc p1 p2 k1 k2 (gn_of hr hk hle) _ (by obtain ⟨hU, -, -⟩ := st.res (i := 1) rfl; exact hU)) ?_)
  rintro _ w ⟨cw, c, rfl, hcN, hcs, hcn, ok, hm1, hm2, hm3, hMr⟩
  have hge := st.chg.size
  have hcn2 : ∀ k ∈ [c.mb, c.ab, c.ib], k ∈ ([] : List Nat) ∨ w0.heap.size ≤ k := fun k hk => .inr (Nat.le_trans hge (hcn k hk))
  replace st := st3 (st.call0 cw).chg ok.nd hm1 hm2 hm3
  refine ym ?_
  iterate 2 refine vy (y_ext rfl rfl) ?_
  iterate 2 refine ya ?_
  refine et (vk3 4 6 10 (vc_seq (sr ?_)))
  refine ym ?_
  refine vy (y_nei rfl rfl) ?_
  refine vmb ?_ ?_
  ·intro hg61
   try simp only [dn] at hg61
   iterate 2 refine vsk ?_
   refine ypt ?_
   refine et (vk3 6 10 64 ?_)
   refine vc_ift rfl ?_
   refine sr ?_
   refine ya ?_
   refine et (vk1 2 (vc_ret (vq_then_ret ?_)))
   refine vr1 st results3 ?_
   (exfalso; simp_all; done)
  intro hg61
  try simp only [dn] at hg61
  refine ym ?_
  refine vy (y_eqpn rfl rfl underlying43) ?_
  refine ypf ?_
  refine et (vk3 6 10 64 ?_)
  refine vif ?_ ?_
  ·intro hc64
   exfalso; revert hc64; decide
  intro hc64
  try simp only [dn] at hc64
  refine kt (vk2 6 10 (vc_seq (sr ?_)))
  refine ya ?_
  refine et (vk3 6 10 11 (vc_block ?_))
  refine vc_loop (w0 := w0) (M := []) (fun (y : Nat × Option (Nat × Nat)) => [(6, .int .i64 (rkX x).1), (10, .pointer (some ⟨c.mb, 0, none⟩)), (11, .int .i64 (y.1 : Int))]) (fun (y : Nat × Option (Nat × Nat)) => [.blk c.mb (.cells (mcC c (pvQ y.2)).toArray 92 (0, 0)), .blk c.ab (.cells ([.int .i64 (y.1 : Int)] : List Value).toArray 3 (0, 0)), .blk c.ib (.cells (iL (sg x y.1)).toArray 2 (0, 0))]) (fun y w' => Mr c w' ∧ QOk x y.1 y.2 w') (fun y => (low x 0).1.length + 2 - y.1) (0, none) ⟨rfl, rfl, rfl, trivial⟩ (by exact st) ⟨hMr, .inl ⟨Nat.zero_le _, rfl⟩⟩ ?_
  clear st
  rintro ⟨k, q⟩ w ⟨hMr, hq⟩ st
  dsimp only at hMr hq st ⊢
  have hkl := hq.le
  obtain ⟨nd, hnd, hcs1⟩ := nf_at x hkl
  have hle2 : (low x 0).1.length + 2 ≤ 4096 := by simpa using hle
  refine vc_seq (sr ?_)
  refine ym ?_
  refine vy (y_leq rfl rfl) ?_
  refine vmb ?_ ?_
  ·intro hg67
   try simp only [dn] at hg67
   refine ym ?_
   refine vc_e (e_call [_, _] rfl rfl call10 rfl (can_any c (pvQ q) k nd _ ok (st.res (i := 0) rfl) (st.res (i := 1) rfl) hMr (by rw [hcN]; exact hnd)) ?_)
   rintro _ w ⟨rfl, cw⟩
   replace st := st.call0 cw
   replace hMr := hMr.kept cw (by simp) (by simp) (by simp)
   replace hq := hq.kept cw
   refine ypt ?_
   refine et (vk4 6 10 11 70 ?_)
   refine vif ?_ ?_
   ·intro hc70
    try simp only [dn] at hc70
    have hcs2 := nf_step hcs1 hc70
    obtain ⟨-, rfl⟩ := hq.resolve_right (fun h => by rcases hcs2 with ⟨h1, -⟩ | ⟨h1, -⟩ <;> omega)
    refine kt (vk3 6 10 11 (vc_seq (vc_block (vc_region ?_))))
    refine ym ?_
    rcases hcs2 with ⟨hk1, hk2⟩ | ⟨rfl, rfl⟩
    ·obtain ⟨mm, t, va, vb, rfl⟩ := nf_set hr hk hk2
     refine vc_e (e_call [_, _] rfl rfl call11 rfl (step_set c (pvQ none) mm t va vb k (sg x k) _ ok (st.res (i := 0) rfl) (st.res (i := 1) rfl) (st.res (i := 2) rfl) hMr (by rw [sg_len, hcs]) (by rw [hcN]; exact hnd)) ?_)
     rintro _ w ⟨h1, h2, h3, cw⟩
     replace hMr := hMr.kept cw ok.g ok.n ok.s
     rw [if_neg (by rw [hcN]; simp; omega)] at h3
     have hsg1 : sg x (k + 1) = (sg x k).set t (setW (sg x k) (mm : Int) va vb) := runN_take hk2 _
     rw [← hsg1] at h2
     replace st := st3 (st.chg.trans' cw hcn2) ok.nd h1 h3 h2
     refine vc_end (vq_block (vq_then (vk3 6 10 11 (vc_region ?_))))
     refine ym ?_
     refine vy (y_add rfl rfl (Int.natCast_succ _).symm (by omega) (by omega)) ?_
     refine ya ?_
     refine vc_end ?_
     refine vq_again (k + 1, none)  ⟨rfl, rfl, rfl, trivial⟩ st ?_ ?_
     ·exact ⟨hMr, .inl ⟨hk1, rfl⟩⟩
     dsimp only; omega
    ·refine vc_e (e_call [_, _] rfl rfl call11 rfl (step_prt c (low x 0).2.2 _ (sg x _) _ ok (st.res (i := 0) rfl) (st.res (i := 1) rfl) (st.res (i := 2) rfl) hMr (by rw [sg_len, hcs]) (by rw [hcN]; exact hnd)) ?_)
     rintro _ w ⟨⟨pb, pc, h1, hp0, hp1⟩, h2, h3, cw⟩
     replace hMr := hMr.kept cw ok.g ok.n ok.s
     rw [if_neg (by rw [hcN]; simp)] at h3
     have hsg1 : sg x ((low x 0).1.length + 1) = sg x (low x 0).1.length := by rw [sg, sg, List.take_length, List.take_of_length_le (by omega)]
     rw [← hsg1] at h2
     replace st := st3 (st.chg.trans' cw hcn2) ok.nd h1 h3 h2
     refine vc_end (vq_block (vq_then (vk3 6 10 11 (vc_region ?_))))
     refine ym ?_
     refine vy (y_add rfl rfl (Int.natCast_succ _).symm (by omega) (by omega)) ?_
     refine ya ?_
     refine vc_end ?_
     refine vq_again ((low x 0).1.length + 1, some (pb, pc))  ⟨rfl, rfl, rfl, trivial⟩ st ?_ ?_
     ·exact ⟨hMr, .inr ⟨rfl, pb, pc, rfl, hp0, hp1⟩⟩
     dsimp only; omega
   intro hc70
   try simp only [dn] at hc70
   obtain ⟨hke, rfl⟩ := nf_end hr hk hcs1 (by simpa using hc70)
   obtain ⟨-, pb, pc, rfl, hp0, hp1⟩ := hq.resolve_left (fun h => by omega)
   rw [show vlW (sg x (low x 0).1.length) (low x 0).2.2 = (rkX x).1 from by rw [sg, List.take_length]; exact run_all hr hk] at hp1
   refine vc_exit (vq_then_exit (vq_then_exit (vq_block_exit (vq_then (vk2 6 10 (sr ?_))))))
   refine ym ?_
   refine vc_e (e_call [_] rfl rfl call12 rfl (prints_any c pb pc _ _ (st.res (i := 0) rfl) (two_cells hp0 hp1)) ?_)
   rintro _ w ⟨⟨b9, c9, rfl, how⟩, cw⟩
   replace st := st.pushOwn cw how
   replace hMr := hMr.kept cw (by simp) (by simp) (by simp)
   refine ya ?_
   refine et (vk3 6 10 12 (sr ?_))
   refine ym ?_
   refine vc_e (e_call [_] rfl rfl call13 rfl (ended_any c _ k .fin _ ok (st.res (i := 1) rfl) (st.res (i := 2) rfl) hMr (by rw [hcN]; exact hnd) rfl) ?_)
   rintro _ w ⟨rfl, cw⟩
   replace st := st.call0 cw
   refine vmb ?_ ?_
   ·intro hg79
    try simp only [dn] at hg79
    refine ym ?_
    refine vy (y_lensl rfl underlying52) ?_
    refine vy (y_eqi rfl rfl) ?_
    refine ypt ?_
    refine vmb ?_ ?_
    ·intro hg84
     try simp only [dn] at hg84
     refine ym ?_
     refine vy ((by exact y_ia0 (k := 0) rfl rfl underlying52 sizeOf55 rfl (by omega))) ?_
     refine vy ((by exact y_ldoa (vs := [.int .i64 0, .int .i64 (rkX x).1]) st 0 rfl isAgg55 sizeOf55 rfl rfl (fun j v hj => by rw [Nat.zero_mul, Nat.zero_add]; exact hj))) ?_
     refine ym ?_
     refine vy (ybd (.agg #[_, _]) [(1, _)]) ?_
     refine vy (y_eqP _ rfl rfl) ?_
     refine ypt ?_
     refine ya ?_
     refine et (vk1 2 (vc_ret ?_))
     refine vr1 st results3 ?_
     exact ⟨rfl, st.chg⟩
    intro hg84
    exfalso; revert hg84; decide
   intro hg79
   exfalso; revert hg79; decide
  intro hg67
  exfalso; simp only [decide_eq_false_iff_not, decide_eq_true_eq] at hg67; omega
end Go.Proofs.YtjoepkpdanolkaaGreatDoor

