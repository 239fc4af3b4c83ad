/- A part of the proof: contracts of functions and plain laws; each theorem says its own conditions. -/
import Derived.Test.YtnmhlpnapgojjaaDoorK9
import Derived.Test.YtnmhlpnapgojjaaDoorK11
import Derived.Test.YtnmhlpnapgojjaaDoorK0
import Derived.Test.YtnmhlpnapgojjaaDoorK1
namespace Go.Proofs.YtnmhlpnapgojjaaDoor
open Go.RowKit Sx LexS _root_.Go.Proofs.Tryd
set_option linter.unusedVariables false
set_option linter.unusedSimpArgs false
def nameE (s : List UInt8) : Ex := .mk 2 0 0 s [] 0
def opE (op : Int) (x y : Ex) : Ex := .mk 4 op 0 [] [x, y] 0
/-- Expr's answer -/
def exprT (e : Ex) : List UInt8 × Nat := if rightE e 0 = true then (if (txtE e).length ≤ 65536 then (txtE e, 0) else ([], 4)) else ([], 40)
theorem exV_name (s : List UInt8) (w : World) (S : Nat → Prop) : ExV w S (nameE s) (exL (nameE s) none 0) := .mk (fun _ => []) (.inl rfl) (fun j x h => by simp at h)
theorem exV_two {w : World} {S : Nat → Prop} {op : Int} {x y : Ex} {lx ly : List Value} {b E : Nat} {fz : Nat × Nat} (h : w.heap[b]? = some (.cells (lx ++ ly).toArray E fz)) (hS : S b) (hx : ExV w S x lx) (hy : ExV w S y ly) : ExV w S (opE op x y) (exL (opE op x y) (some ⟨b, 0, none⟩) 2) := by
 have h6 := hx.len
 have h6' := hy.len
 refine .mk (fun j => if j = 0 then lx else ly) (.inr ⟨b, 0, rfl, hS, (Array.getElem?_eq_some_iff.1 h).1, fun j hj => ?_⟩) (fun j z hz => ?_)
 ·
  simp only [List.length_cons, List.length_nil] at hj
  rcases (by omega : j = 0 ∨ j = 1) with rfl | rfl
  ·
   refine ⟨h6, fun i v hi => ?_⟩
   refine cell_blk h ?_
   have hi' : lx[i]? = some v := hi
   rw [nth_eq, show 0 + 0 * 6 + i = i by omega, List.getElem?_append_left (List.getElem?_eq_some_iff.1 hi').1]
   exact hi'
  ·
   refine ⟨h6', fun i v hi => ?_⟩
   refine cell_blk h ?_
   rw [nth_eq, show 0 + 1 * 6 + i = lx.length + i by omega, List.getElem?_append_right (by omega), Nat.add_sub_cancel_left]
   exact hi
 ·
  match j, hz with
  | 0, hz => simp at hz; subst hz; exact hx
  | 1, hz => simp at hz; subst hz; exact hy
  | j + 2, hz => simp at hz
theorem rowC_one {w : World} {S : Nat → Prop} {b E sz : Nat} {fz : Nat × Nat} {l : List Value} {vs : Nat → List Value} (h : w.heap[b]? = some (.cells l.toArray E fz)) (hS : S b) (hl : l.length = sz) (hv : vs 0 = l) : RowC w S sz (some ⟨b, 0, none⟩) 1 vs := by
 refine .inr ⟨b, 0, rfl, hS, (Array.getElem?_eq_some_iff.1 h).1, fun j hj => ?_⟩
 obtain rfl : j = 0 := by omega
 rw [hv]
 refine ⟨hl, fun i v hi => cell_blk h ?_⟩
 rw [nth_eq, show 0 + 0 * sz + i = i by omega]
 exact hi
section
variable {n0 : Nat}

theorem name30_any (s : List UInt8) (w : World) : Ret Tryd.prog 30 [str s] w fun v w' => v = .agg (exL (nameE s) none 0).toArray ∧ Chg [] w w' := by
 refine ret_of [_] func30 rfl ntmps30 rfl ?_
 have st := St.init w []
 refine vc_seq (vc_region ?_)
 refine vc_e (e_al (l := [_, _, _, _, _, _]) st rfl rfl zeroValue63 rfl ?_)
 intro b2 w hb2 st
 refine vc_end (vq_then (vc_keep [(0, _), (2, _)] ⟨rfl, rfl, trivial⟩ (vc_seq (vc_region ?_))))
 refine vc_y rfl rfl (y_mv rfl) ?_
 refine vc_y rfl rfl (y_bld (.agg #[_, _, _, _, _, _]) [(0, _), (3, _)] rfl (fun w => by simp [Instr.build, go_sem] <;> repeat' constructor)) ?_
 refine vc_e (e_sts (vs := [_, _, _, _, _, _]) st 0 rfl rfl rfl rfl rfl sizeOf63 rfl rfl (by first | (right; assumption) | (left; simp)) ?_)
 intro w st; dsimp only [setNth, wr] at st
 refine vc_end (vq_then (vc_keep [(2, _)] ⟨rfl, trivial⟩ (vc_ret ?_)))
 refine vq_ret1 st (.inl rfl) results30 (by exact .cell 0 rfl rfl isAgg63 sizeOf63) ?_
 refine ⟨_, rfl, ?_⟩
 exact ⟨rfl, st.chg⟩

theorem binary_any (op : Int) (x y : Ex) (o o' : Option Addr) (c c' : Nat) (w : World) : Ret Tryd.prog 29 [.int .u8 op, .agg (exL x o c).toArray, .agg (exL y o' c').toArray] w fun v w' => ∃ b, v = .agg (exL (opE op x y) (some ⟨b, 0, none⟩) 2).toArray ∧ w.heap.size ≤ b ∧ w'.heap[b]? = some (.cells (exL x o c ++ exL y o' c').toArray 63 (0, 0)) ∧ Chg [] w w' := by
 refine ret_of [_, _, _] func29 rfl ntmps29 rfl ?_
 have st := St.init w []
 refine vc_seq (vc_region ?_)
 refine vc_e (e_bx (l := [_, _, _, _, _, _]) st rfl rfl rfl rfl ?_)
 intro b4 w hb4 st
 refine vc_e (e_bx (l := [_, _, _, _, _, _]) st rfl rfl rfl rfl ?_)
 intro b5 w hb5 st
 refine vc_e (e_al (l := [_, _, _, _, _, _]) st rfl rfl zeroValue63 rfl ?_)
 intro b6 w hb6 st
 refine vc_end (vq_then (vc_keep [(0, _), (4, _), (5, _), (6, _)] ⟨rfl, rfl, rfl, rfl, trivial⟩ (vc_seq (vc_region ?_))))
 refine vc_y rfl rfl (y_mv rfl) ?_
 refine vc_y rfl rfl ((by exact y_lda (vs := [_, _, _, _, _, _]) st 2 rfl isAgg63 sizeOf63 rfl rfl)) ?_
 refine vc_y rfl rfl ((by exact y_lda (vs := [_, _, _, _, _, _]) st 1 rfl isAgg63 sizeOf63 rfl rfl)) ?_
 refine vc_e (e_bsn (l := exL x o c ++ exL y o' c') (E := 63) st [(0, _), (1, _)] rfl rfl rfl (fun w => by simp [Instr.buildSlice, run_underlying underlying61, sizeOf63, zeroValue63, Instr.fill, newRow, newObj, Sem.run, go_sem, Value.cells]) ?_)
 intro b10 w hb10 st
 refine vc_y rfl rfl (y_bld (.agg #[_, _, _, _, _, _]) [(0, _), (1, _), (4, _)] rfl (fun w => by simp [Instr.build, go_sem] <;> repeat' constructor)) ?_
 refine vc_e (e_sts (vs := [_, _, _, _, _, _]) st 1 rfl rfl rfl rfl rfl sizeOf63 rfl rfl (by first | (right; assumption) | (left; simp)) ?_)
 intro w st; dsimp only [setNth, wr] at st
 refine vc_end (vq_then (vc_keep [(6, _)] ⟨rfl, trivial⟩ (vc_ret ?_)))
 refine vq_ret1 st (.inl rfl) results29 (by exact .cell 1 rfl rfl isAgg63 sizeOf63) ?_
 refine ⟨_, rfl, ?_⟩
 exact ⟨b10, rfl, hb10, st.res (i := 0) rfl, st.chg⟩

theorem exprT_any (e : Ex) (hok : OkE e) (l : List Value) (w : World) (hV : ExV w (· < w.heap.size) e l) (hsg : Sig w) (hlen : (txtE e).length ≤ 1099511627776) :
    Ret Tryd.prog 28 [.agg l.toArray] w fun v w' => v = .tuple #[str (exprT e).1, .int .i64 ((exprT e).2 : Int)] ∧ Chg [] w w' := by
 refine ret_of [_] func28 rfl ntmps28 rfl ?_
 have st := St.init w []
 obtain ⟨w0, rfl⟩ : ∃ w0, w0 = w := ⟨_, rfl⟩
 have h0 := hsg.pos
 obtain ⟨oa, cap, rfl, hr⟩ := ExV.inv hV
 refine vc_seq (vc_region ?_)
 refine vc_e (e_bx (l := [_, _, _, _, _, _]) st rfl rfl rfl rfl ?_)
 intro b1 w hb1 st
 iterate 2 refine vc_y rfl rfl (y_as rfl) ?_
 refine vc_end (vq_then (vc_keep [(1, _)] ⟨rfl, trivial⟩ (vc_seq (vc_seq (vc_region ?_)))))
 refine vc_y rfl rfl ((by exact y_lda (vs := [_, _, _, _, _, _]) st 0 rfl isAgg63 sizeOf63 rfl rfl)) ?_
 refine vc_e (e_call [_, _] rfl rfl call63 rfl (expr_any _ e rfl 0 (by omega) _ _ (hV.kept (Same.of_nil st.chg)) (hsg.kept st.chg)) ?_)
 rintro _ w ⟨rfl, cw⟩
 replace st := st.call0 cw
 refine vc_y rfl rfl (y_not rfl) ?_
 refine vc_end (vq_then (vc_keep [(1, _), (7, _)] ⟨rfl, rfl, trivial⟩ ?_))
 refine vc_ifs rfl ?_ ?_
 ·
  intro hc7
  try simp only [dn] at hc7
  refine vc_seq (vc_region ?_)
  iterate 2 refine vc_y rfl rfl (y_as rfl) ?_
  refine vc_end (vq_then (vc_keep [(2, _), (3, _)] ⟨rfl, rfl, trivial⟩ (vc_ret (vq_then_ret ?_))))
  refine vq_ret2 st (.inl rfl) results28 (.tmp rfl) (.tmp rfl) ?_
  refine ⟨_, rfl, ?_⟩
  refine ⟨?_, st.chg⟩
  unfold exprT
  rw [if_neg (by simp_all)]; rfl
 ·
  intro hc7
  try simp only [dn] at hc7
  refine vc_code_skip (vq_then (vc_keep [(1, _)] ⟨rfl, trivial⟩ (vc_seq (vc_region ?_))))
  refine vc_y rfl rfl ((by exact y_lda (vs := [_, _, _, _, _, _]) st 0 rfl isAgg63 sizeOf63 rfl rfl)) ?_
  refine vc_e (e_call [_, _] rfl rfl call64 rfl (text_any _ e rfl 0 (by assumption) hok (.slice none 0 0) [] _ _ (hV.kept (Same.of_nil st.chg)) (World.ownsRow_nil _ 0 5 1) (fun k hk => by simp [Value.ownBlock] at hk) st.chg.size h0 (hsg.kept st.chg) (by simpa using hlen)) ?_)
  rintro r w ⟨l2, hp, hT⟩
  obtain ⟨o2, c2, hv2⟩ := slice_form hp.1
  subst hv2
  replace st := st.call0 (by simpa [Value.ownBlock] using hp.2.1)
  obtain ⟨t1, t2, -, -⟩ := hT
  simp only [List.length_nil, Nat.zero_add, List.nil_append] at t1 t2
  refine vc_y rfl rfl (y_as rfl) ?_
  refine vc_end (vq_then (vc_keep [(4, _)] ⟨rfl, trivial⟩ (vc_seq (vc_seq (vc_region ?_)))))
  refine vc_y rfl rfl (y_mv rfl) ?_
  refine vc_y rfl rfl (y_lensl rfl underlying45) ?_
  refine vc_y rfl rfl (y_gtr rfl rfl) ?_
  refine vc_end (vq_then (vc_keep [(4, _), (12, _)] ⟨rfl, rfl, trivial⟩ ?_))
  refine vc_ifs rfl ?_ ?_
  ·
   intro hc12
   try simp only [dn] at hc12
   refine vc_seq (vc_region ?_)
   iterate 2 refine vc_y rfl rfl (y_as rfl) ?_
   refine vc_end (vq_then (vc_keep [(2, _), (3, _)] ⟨rfl, rfl, trivial⟩ (vc_ret (vq_then_ret ?_))))
   refine vq_ret2 st (.inl rfl) results28 (.tmp rfl) (.tmp rfl) ?_
   refine ⟨_, rfl, ?_⟩
   refine ⟨?_, st.chg⟩
   have hlong : 65536 < (txtE e).length := by
    rcases Nat.lt_or_ge 65536 (txtE e).length with h | h
    ·
     exact h
    ·
     rw [t1 h] at *; omega
   unfold exprT
   rw [if_pos (by assumption), if_neg (by omega)]; rfl
  ·
   intro hc12
   try simp only [dn] at hc12
   refine vc_code_skip (vq_then (vc_keep [(4, _)] ⟨rfl, trivial⟩ (vc_seq (vc_region ?_))))
   refine vc_y rfl rfl (y_mv rfl) ?_
   refine vc_y rfl rfl (y_b2s rfl (p := l2) (own_rdp hp.1) rfl underlying45 underlying5 underlying9) ?_
   iterate 2 refine vc_y rfl rfl (y_as rfl) ?_
   refine vc_end (vq_then (vc_keep [(2, _), (3, _)] ⟨rfl, rfl, trivial⟩ (vc_ret ?_)))
   refine vq_ret2 st (.inl rfl) results28 (.tmp rfl) (.tmp rfl) ?_
   refine ⟨_, rfl, ?_⟩
   refine ⟨?_, st.chg⟩
   have hshort : (txtE e).length ≤ 65536 := by
    rcases Nat.lt_or_ge 65536 (txtE e).length with h | h
    ·
     have := t2 h; omega
    ·
     exact h
   unfold exprT
   rw [if_pos (by assumption), if_pos hshort, t1 hshort]; rfl

def eA : Ex := opE 2 (nameE [97]) (opE 2 (nameE [98]) (nameE [99]))
def eB : Ex := opE 1 (nameE [97]) (opE 3 (nameE [98]) (nameE [99]))
theorem exprT_A : exprT eA = ([97, 32, 45, 32, 40, 98, 32, 45, 32, 99, 41], 0) := by kernel_rfl
theorem exprT_B : exprT eB = ([97, 32, 43, 32, 98, 32, 42, 32, 99], 0) := by kernel_rfl
def sK : Sm := .mk 7 [] [] [] [] [] 0
def pA : Pg := ⟨[⟨[120], -3, 0⟩], [], [⟨[116], [], [sK], 0⟩]⟩
def pB : Pg := ⟨[], [⟨[105, 102], 0, 0⟩], []⟩
theorem pgRes_A : pgRes pA = ([115, 104, 97, 114, 101, 100, 32, 120, 32, 61, 32, 45, 51, 59, 10, 116, 104, 114, 101, 97, 100, 32, 116, 32, 123, 10, 32, 32, 115, 107, 105, 112, 59, 10, 125, 10], 0) := by kernel_rfl
theorem pgRes_B : pgRes pB = ([], 40) := by kernel_rfl
theorem len_A : (pgT pA).length ≤ 1099511627776 := by decide
theorem len_B : (pgT pB).length ≤ 1099511627776 := by decide
theorem nm_ok (s : List UInt8) : OkE (nameE s) := .mk (by simp [u8]) (by simp [u8]) (by simp [i64]) (by simp [i64]) (by simp) (fun j x h => by simp at h)
theorem op_ok {op : Int} {x y : Ex} (ho : u8 op) (hx : OkE x) (hy : OkE y) : OkE (opE op x y) := .mk (by simp [u8]) ho (by simp [i64]) (by simp [i64]) (by simp) (fun j z h => by
  match j, h with
  | 0, h => simp at h; subst h; exact hx
  | 1, h => simp at h; subst h; exact hy
  | j + 2, h => simp at h)
theorem eA_ok : OkE eA := op_ok (by simp [u8]) (nm_ok _) (op_ok (by simp [u8]) (nm_ok _) (nm_ok _))
theorem eB_ok : OkE eB := op_ok (by simp [u8]) (nm_ok _) (op_ok (by simp [u8]) (nm_ok _) (nm_ok _))
theorem sK_ok : OkS sK := .mk (by simp [u8]) (by simp [i64]) ⟨by simp, fun j x h => by simp at h⟩ (by simp) (fun j x h => by simp at h) (by simp) (fun j x h => by simp at h)
theorem pA_ok : OkP pA := by
 refine ⟨⟨by decide, fun j x h => ?_⟩, ⟨by decide, fun j x h => by simp [pA] at h⟩, ⟨by decide, fun j t h => ?_⟩⟩
 ·
  match j, h with
  | 0, h => simp [pA] at h; subst h; simp [i64]
  | j + 1, h => simp [pA] at h
 ·
  match j, h with
  | 0, h =>
   simp [pA] at h; subst h
   refine ⟨⟨by simp, fun j x h => by simp at h⟩, ⟨by simp, fun j x h => ?_⟩, by simp [i64]⟩
   match j, h with
   | 0, h => simp at h; subst h; exact sK_ok
   | j + 1, h => simp at h
  | j + 1, h => simp [pA] at h
theorem pB_ok : OkP pB := by
 refine ⟨⟨by decide, fun j x h => by simp [pB] at h⟩, ⟨by decide, fun j x h => ?_⟩, ⟨by decide, fun j t h => by simp [pB] at h⟩⟩
 match j, h with
 | 0, h => simp [pB] at h; subst h; simp [i64]
 | j + 1, h => simp [pB] at h
theorem smV_K (w : World) (S : Nat → Prop) : SmV w S sK (smL sK none none none 0 0 0) := .mk (fun _ => []) (fun _ => []) ⟨fun _ => [], .inl rfl, fun j x h => by simp at h⟩ (.inl rfl) (fun j x h => by simp at h) (.inl rfl) (fun j x h => by simp at h)

set_option maxHeartbeats 2000000 in
theorem begins_any (w : World) (hsg : Sig w) : Ret Tryd.prog 11 [] w fun v w' => v = .bool true ∧ Chg [] w w' := by
 refine ret_of [] func11 rfl ntmps11 rfl ?_
 have st := St.init w []
 obtain ⟨w0, rfl⟩ : ∃ w0, w0 = w := ⟨_, rfl⟩
 refine vc_seq (vc_region ?_)
 refine vc_y rfl rfl (y_as rfl) ?_
 refine vc_end (vq_then (vc_keep [] trivial (vc_seq (vc_region ?_))))
 refine vc_e (e_call [_] rfl rfl call30 rfl (name30_any _ _) ?_)
 rintro _ w ⟨rfl, cw⟩
 replace st := st.call0 cw
 refine vc_e (e_call [_] rfl rfl call30 rfl (name30_any _ _) ?_)
 rintro _ w ⟨rfl, cw⟩
 replace st := st.call0 cw
 refine vc_e (e_call [_] rfl rfl call30 rfl (name30_any _ _) ?_)
 rintro _ w ⟨rfl, cw⟩
 replace st := st.call0 cw
 refine vc_e (e_call [_, _, _] rfl rfl call29 rfl (binary_any 2 (nameE [98]) (nameE [99]) none none 0 0 _) ?_)
 rintro _ w ⟨d0, rfl, hd0, hh0, cw0⟩
 replace st := st.call0 cw0
 refine vc_e (e_call [_, _, _] rfl rfl call29 rfl (binary_any 2 (nameE [97]) (opE 2 (nameE [98]) (nameE [99])) none (some ⟨d0, 0, none⟩) 0 2 _) ?_)
 rintro _ w ⟨d1, rfl, hd1, hh1, cw1⟩
 replace st := st.call0 cw1
 refine vc_e (e_call [_] rfl rfl call28 rfl (exprT_any eA eA_ok _ _ (exV_two (op := 2) (x := nameE [97]) (y := opE 2 (nameE [98]) (nameE [99])) hh1 (Array.getElem?_eq_some_iff.1 hh1).1 (exV_name _ _ _) (exV_two (cw1.heap hh0 (by simp)) (Array.getElem?_eq_some_iff.1 (cw1.heap hh0 (by simp))).1 (exV_name _ _ _) (exV_name _ _ _))) (hsg.kept st.chg) (by decide)) ?_)
 rintro _ w ⟨rfl, cw⟩
 replace st := st.call0 cw
 rw [exprT_A]
 refine vc_y rfl rfl (y_mv rfl) ?_
 iterate 2 refine vc_y rfl rfl (y_ext rfl rfl) ?_
 iterate 2 refine vc_y rfl rfl (y_as rfl) ?_
 refine vc_end (vq_then (vc_keep [(1, _), (2, _)] ⟨rfl, rfl, trivial⟩ (vc_seq (vc_region ?_))))
 refine vc_e (e_call [_] rfl rfl call30 rfl (name30_any _ _) ?_)
 rintro _ w ⟨rfl, cw⟩
 replace st := st.call0 cw
 refine vc_e (e_call [_] rfl rfl call30 rfl (name30_any _ _) ?_)
 rintro _ w ⟨rfl, cw⟩
 replace st := st.call0 cw
 refine vc_e (e_call [_] rfl rfl call30 rfl (name30_any _ _) ?_)
 rintro _ w ⟨rfl, cw⟩
 replace st := st.call0 cw
 refine vc_e (e_call [_, _, _] rfl rfl call29 rfl (binary_any 3 (nameE [98]) (nameE [99]) none none 0 0 _) ?_)
 rintro _ w ⟨d2, rfl, hd2, hh2, cw2⟩
 replace st := st.call0 cw2
 refine vc_e (e_call [_, _, _] rfl rfl call29 rfl (binary_any 1 (nameE [97]) (opE 3 (nameE [98]) (nameE [99])) none (some ⟨d2, 0, none⟩) 0 2 _) ?_)
 rintro _ w ⟨d3, rfl, hd3, hh3, cw3⟩
 replace st := st.call0 cw3
 refine vc_e (e_call [_] rfl rfl call28 rfl (exprT_any eB eB_ok _ _ (exV_two (op := 1) (x := nameE [97]) (y := opE 3 (nameE [98]) (nameE [99])) hh3 (Array.getElem?_eq_some_iff.1 hh3).1 (exV_name _ _ _) (exV_two (cw3.heap hh2 (by simp)) (Array.getElem?_eq_some_iff.1 (cw3.heap hh2 (by simp))).1 (exV_name _ _ _) (exV_name _ _ _))) (hsg.kept st.chg) (by decide)) ?_)
 rintro _ w ⟨rfl, cw⟩
 replace st := st.call0 cw
 rw [exprT_B]
 refine vc_y rfl rfl (y_mv rfl) ?_
 iterate 2 refine vc_y rfl rfl (y_ext rfl rfl) ?_
 iterate 2 refine vc_y rfl rfl (y_as rfl) ?_
 refine vc_end (vq_then (vc_keep [(1, _), (2, _), (3, _), (4, _)] ⟨rfl, rfl, rfl, rfl, trivial⟩ (vc_seq (vc_region ?_))))
 refine vc_y rfl rfl (y_bld (.agg #[_, _, _]) [(0, _), (1, _)] rfl (fun w => by simp [Instr.build, go_sem] <;> repeat' constructor)) ?_
 refine vc_e (e_bs1 (l := [_, _, _]) st rfl rfl rfl rfl underlying22 sizeOf67 rfl rfl rfl zeroValue67 ?_)
 intro b27 w hb27 st
 refine vc_y rfl rfl (y_bld (.agg #[_, _, _, _, _, _, _]) [(0, _)] rfl (fun w => by simp [Instr.build, go_sem] <;> repeat' constructor)) ?_
 refine vc_e (e_bs1 (l := [_, _, _, _, _, _, _]) st rfl rfl rfl rfl underlying40 sizeOf70 rfl rfl rfl zeroValue70 ?_)
 intro b29 w hb29 st
 refine vc_y rfl rfl (y_bld (.agg #[_, _, _, _]) [(0, _), (2, _)] rfl (fun w => by simp [Instr.build, go_sem] <;> repeat' constructor)) ?_
 refine vc_e (e_bs1 (l := [_, _, _, _]) st rfl rfl rfl rfl underlying23 sizeOf42 rfl rfl rfl zeroValue42 ?_)
 intro b31 w hb31 st
 refine vc_y rfl rfl (y_bld (.agg #[_, _, _]) [(0, _), (2, _)] rfl (fun w => by simp [Instr.build, go_sem] <;> repeat' constructor)) ?_
 refine vc_e (e_call [_] rfl rfl call7 rfl (wprintP_any pA _ _ _ _ _ _ _ (rowC_one (st.res (i := 2) rfl) (Array.getElem?_eq_some_iff.1 (st.res (i := 2) rfl)).1 rfl rfl) (.inl rfl) ⟨fun _ => thL ⟨[116], [], [sK], 0⟩ none _ 0 _, rowC_one (st.res (i := 0) rfl) (Array.getElem?_eq_some_iff.1 (st.res (i := 0) rfl)).1 rfl rfl, fun j x hj => by
     match j, hj with
     | 0, hj => simp [pA] at hj; subst hj; exact ⟨none, 0, _, _, rfl, .inl rfl, fun _ => smL sK none none none 0 0 0, rowC_one (st.res (i := 1) rfl) (Array.getElem?_eq_some_iff.1 (st.res (i := 1) rfl)).1 rfl rfl, fun j x hj => by
         match j, hj with
         | 0, hj => simp at hj; subst hj; exact smV_K _ _
         | j + 1, hj => simp at hj⟩
     | j + 1, hj => simp [pA] at hj⟩ pA_ok (hsg.kept st.chg) (fun _ => len_A)) ?_)
 rintro _ w ⟨rfl, cw⟩
 replace st := st.call0 cw
 rw [pgRes_A]
 refine vc_y rfl rfl (y_mv rfl) ?_
 iterate 2 refine vc_y rfl rfl (y_ext rfl rfl) ?_
 iterate 2 refine vc_y rfl rfl (y_as rfl) ?_
 refine vc_end (vq_then (vc_keep [(1, _), (2, _), (3, _), (4, _), (5, _), (6, _)] ⟨rfl, rfl, rfl, rfl, rfl, rfl, trivial⟩ (vc_seq (vc_region ?_))))
 refine vc_y rfl rfl (y_mv rfl) ?_
 refine vc_y rfl rfl (y_eqi rfl rfl) ?_
 refine vc_e (e_mvb rfl rfl rfl ?_ ?_)
 ·
  intro hg38
  try simp only [dn] at hg38
  refine vc_y rfl rfl (y_mv rfl) ?_
  refine vc_y rfl rfl (y_eqs rfl rfl) ?_
  refine vc_y rfl rfl (y_pickt rfl rfl) ?_
  refine vc_e (e_mvb rfl rfl rfl ?_ ?_)
  ·
   intro hg42
   try simp only [dn] at hg42
   refine vc_y rfl rfl (y_mv rfl) ?_
   refine vc_y rfl rfl (y_eqi rfl rfl) ?_
   refine vc_y rfl rfl (y_pickt rfl rfl) ?_
   refine vc_e (e_mvb rfl rfl rfl ?_ ?_)
   ·
    intro hg46
    try simp only [dn] at hg46
    refine vc_y rfl rfl (y_mv rfl) ?_
    refine vc_y rfl rfl (y_eqs rfl rfl) ?_
    refine vc_y rfl rfl (y_pickt rfl rfl) ?_
    refine vc_e (e_mvb rfl rfl rfl ?_ ?_)
    ·
     intro hg50
     try simp only [dn] at hg50
     refine vc_y rfl rfl (y_mv rfl) ?_
     refine vc_y rfl rfl (y_eqi rfl rfl) ?_
     refine vc_y rfl rfl (y_pickt rfl rfl) ?_
     refine vc_e (e_mvb rfl rfl rfl ?_ ?_)
     ·
      intro hg54
      try simp only [dn] at hg54
      refine vc_y rfl rfl (y_mv rfl) ?_
      refine vc_y rfl rfl (y_eqs rfl rfl) ?_
      refine vc_y rfl rfl (y_pickt rfl rfl) ?_
      refine vc_e (e_mvb rfl rfl rfl ?_ ?_)
      ·
       intro hg58
       try simp only [dn] at hg58
       refine vc_y rfl rfl (y_bld (.agg #[_, _, _]) [(0, _)] rfl (fun w => by simp [Instr.build, go_sem] <;> repeat' constructor)) ?_
       refine vc_e (e_bs1 (l := [_, _, _]) st rfl rfl rfl rfl underlying22 sizeOf67 rfl rfl rfl zeroValue67 ?_)
       intro b60 w hb60 st
       refine vc_y rfl rfl (y_bld (.agg #[_, _, _]) [(1, _)] rfl (fun w => by simp [Instr.build, go_sem] <;> repeat' constructor)) ?_
       refine vc_e (e_call [_] rfl rfl call9 rfl (wcheckP_any pB _ _ _ _ _ _ _ (.inl rfl) (rowC_one (st.res (i := 0) rfl) (Array.getElem?_eq_some_iff.1 (st.res (i := 0) rfl)).1 rfl rfl) ⟨fun _ => [], .inl rfl, fun j x hj => by simp [pB] at hj⟩ pB_ok (hsg.kept st.chg) (fun _ => len_B)) ?_)
       rintro _ w ⟨rfl, cw⟩
       replace st := st.call0 cw
       rw [pgRes_B]
       refine vc_y rfl rfl (y_eqi rfl rfl) ?_
       refine vc_y rfl rfl (y_pickt rfl rfl) ?_
       refine vc_y rfl rfl (y_as rfl) ?_
       refine vc_end (vq_then (vc_keep [(0, _)] ⟨rfl, trivial⟩ (vc_ret ?_)))
       refine vq_ret1 st (.inl rfl) results11 (.tmp rfl) ?_
       refine ⟨_, rfl, ?_⟩
       first | exact ⟨rfl, st.chg⟩ | (exfalso; simp_all; done)
      ·
       intro hg58
       try simp only [dn] at hg58
       iterate 5 refine vc_e (e_skip rfl rfl ?_)
       refine vc_y rfl rfl (y_pickf rfl rfl) ?_
       refine vc_y rfl rfl (y_as rfl) ?_
       refine vc_end (vq_then (vc_keep [(0, _)] ⟨rfl, trivial⟩ (vc_ret ?_)))
       refine vq_ret1 st (.inl rfl) results11 (.tmp rfl) ?_
       refine ⟨_, rfl, ?_⟩
       first | exact ⟨rfl, st.chg⟩ | (exfalso; simp_all; done)
     ·
      intro hg54
      try simp only [dn] at hg54
      iterate 2 refine vc_e (e_skip rfl rfl ?_)
      refine vc_y rfl rfl (y_pickf rfl rfl) ?_
      refine vc_y rfl rfl (y_mv rfl) ?_
      iterate 5 refine vc_e (e_skip rfl rfl ?_)
      refine vc_y rfl rfl (y_pickf rfl rfl) ?_
      refine vc_y rfl rfl (y_as rfl) ?_
      refine vc_end (vq_then (vc_keep [(0, _)] ⟨rfl, trivial⟩ (vc_ret ?_)))
      refine vq_ret1 st (.inl rfl) results11 (.tmp rfl) ?_
      refine ⟨_, rfl, ?_⟩
      first | exact ⟨rfl, st.chg⟩ | (exfalso; simp_all; done)
    ·
     intro hg50
     try simp only [dn] at hg50
     iterate 2 refine vc_e (e_skip rfl rfl ?_)
     refine vc_y rfl rfl (y_pickf rfl rfl) ?_
     refine vc_y rfl rfl (y_mv rfl) ?_
     iterate 2 refine vc_e (e_skip rfl rfl ?_)
     refine vc_y rfl rfl (y_pickf rfl rfl) ?_
     refine vc_y rfl rfl (y_mv rfl) ?_
     iterate 5 refine vc_e (e_skip rfl rfl ?_)
     refine vc_y rfl rfl (y_pickf rfl rfl) ?_
     refine vc_y rfl rfl (y_as rfl) ?_
     refine vc_end (vq_then (vc_keep [(0, _)] ⟨rfl, trivial⟩ (vc_ret ?_)))
     refine vq_ret1 st (.inl rfl) results11 (.tmp rfl) ?_
     refine ⟨_, rfl, ?_⟩
     first | exact ⟨rfl, st.chg⟩ | (exfalso; simp_all; done)
   ·
    intro hg46
    try simp only [dn] at hg46
    iterate 2 refine vc_e (e_skip rfl rfl ?_)
    refine vc_y rfl rfl (y_pickf rfl rfl) ?_
    refine vc_y rfl rfl (y_mv rfl) ?_
    iterate 2 refine vc_e (e_skip rfl rfl ?_)
    refine vc_y rfl rfl (y_pickf rfl rfl) ?_
    refine vc_y rfl rfl (y_mv rfl) ?_
    iterate 2 refine vc_e (e_skip rfl rfl ?_)
    refine vc_y rfl rfl (y_pickf rfl rfl) ?_
    refine vc_y rfl rfl (y_mv rfl) ?_
    iterate 5 refine vc_e (e_skip rfl rfl ?_)
    refine vc_y rfl rfl (y_pickf rfl rfl) ?_
    refine vc_y rfl rfl (y_as rfl) ?_
    refine vc_end (vq_then (vc_keep [(0, _)] ⟨rfl, trivial⟩ (vc_ret ?_)))
    refine vq_ret1 st (.inl rfl) results11 (.tmp rfl) ?_
    refine ⟨_, rfl, ?_⟩
    first | exact ⟨rfl, st.chg⟩ | (exfalso; simp_all; done)
  ·
   intro hg42
   try simp only [dn] at hg42
   iterate 2 refine vc_e (e_skip rfl rfl ?_)
   refine vc_y rfl rfl (y_pickf rfl rfl) ?_
   refine vc_y rfl rfl (y_mv rfl) ?_
   iterate 2 refine vc_e (e_skip rfl rfl ?_)
   refine vc_y rfl rfl (y_pickf rfl rfl) ?_
   refine vc_y rfl rfl (y_mv rfl) ?_
   iterate 2 refine vc_e (e_skip rfl rfl ?_)
   refine vc_y rfl rfl (y_pickf rfl rfl) ?_
   refine vc_y rfl rfl (y_mv rfl) ?_
   iterate 2 refine vc_e (e_skip rfl rfl ?_)
   refine vc_y rfl rfl (y_pickf rfl rfl) ?_
   refine vc_y rfl rfl (y_mv rfl) ?_
   iterate 5 refine vc_e (e_skip rfl rfl ?_)
   refine vc_y rfl rfl (y_pickf rfl rfl) ?_
   refine vc_y rfl rfl (y_as rfl) ?_
   refine vc_end (vq_then (vc_keep [(0, _)] ⟨rfl, trivial⟩ (vc_ret ?_)))
   refine vq_ret1 st (.inl rfl) results11 (.tmp rfl) ?_
   refine ⟨_, rfl, ?_⟩
   first | exact ⟨rfl, st.chg⟩ | (exfalso; simp_all; done)
 ·
  intro hg38
  try simp only [dn] at hg38
  iterate 2 refine vc_e (e_skip rfl rfl ?_)
  refine vc_y rfl rfl (y_pickf rfl rfl) ?_
  refine vc_y rfl rfl (y_mv rfl) ?_
  iterate 2 refine vc_e (e_skip rfl rfl ?_)
  refine vc_y rfl rfl (y_pickf rfl rfl) ?_
  refine vc_y rfl rfl (y_mv rfl) ?_
  iterate 2 refine vc_e (e_skip rfl rfl ?_)
  refine vc_y rfl rfl (y_pickf rfl rfl) ?_
  refine vc_y rfl rfl (y_mv rfl) ?_
  iterate 2 refine vc_e (e_skip rfl rfl ?_)
  refine vc_y rfl rfl (y_pickf rfl rfl) ?_
  refine vc_y rfl rfl (y_mv rfl) ?_
  iterate 2 refine vc_e (e_skip rfl rfl ?_)
  refine vc_y rfl rfl (y_pickf rfl rfl) ?_
  refine vc_y rfl rfl (y_mv rfl) ?_
  iterate 5 refine vc_e (e_skip rfl rfl ?_)
  refine vc_y rfl rfl (y_pickf rfl rfl) ?_
  refine vc_y rfl rfl (y_as rfl) ?_
  refine vc_end (vq_then (vc_keep [(0, _)] ⟨rfl, trivial⟩ (vc_ret ?_)))
  refine vq_ret1 st (.inl rfl) results11 (.tmp rfl) ?_
  refine ⟨_, rfl, ?_⟩
  first | exact ⟨rfl, st.chg⟩ | (exfalso; simp_all; done)

end
end Go.Proofs.YtnmhlpnapgojjaaDoor


namespace Go.Proofs.YtnmhlpnapgojjaaDoor
open Go.RowKit Sx LexS _root_.Go.Proofs.Tryd
set_option linter.unusedVariables false
set_option linter.unusedSimpArgs false
theorem PgQ.rows {w : World} {p : Pg} {gs gl gt : Option Addr} {gcs gcl gct : Nat} {S : List Nat} (h : PgQ w p (pgL p gs gl gt gcs gcl gct) S) : DcRow w (· < w.heap.size) gs p.shared ∧ DcRow w (· < w.heap.size) gl p.locks ∧ ThRow w (· < w.heap.size) gt p.threads := by
 obtain ⟨os, cs, ol, cl, ot, ct, e, h1, h2, h3⟩ := PgS.toV h (T := (· < w.heap.size)) (fun b hb => PgS.lt h b hb)
 simp only [List.cons.injEq, Value.slice.injEq, and_true, true_and] at e
 obtain ⟨⟨rfl, -⟩, ⟨rfl, -⟩, rfl, -⟩ := e
 exact ⟨h1, h2, h3⟩

end Go.Proofs.YtnmhlpnapgojjaaDoor


/- The engine, twenty-second part: a statement whose order is drawn, with stores behind what is read: the condition is asked for only until the first store. -/
namespace Sx
open Go Go.RowKit
set_option linter.unusedVariables false
set_option linter.unusedSimpArgs false

section
variable {P : Program} {md : Region.Mode} {ops : Array Oper} {Q : Exit → Act → World → Prop} {S : World → Prop} {s : Nat}
def wpAnyK (P : Program) (md : Region.Mode) (ops : Array Oper) (Q : Exit → Act → World → Prop) (s : Nat) (S : World → Prop) : Nat → Array Bool → Act → World → Prop
  | 0, listed, a, w => Region.ready md ops listed = [] ∧ Q .normal a w
  | fuel + 1, listed, a, w => (Region.ready md ops listed = [] → Q .normal a w) ∧
    ∀ i ∈ Region.ready md ops listed, wpOp P ops Q i (fun a' w' => ((listed.setIfInBounds i true).getD s false = false → S w') ∧ wpAnyK P md ops Q s S fuel (listed.setIfInBounds i true) a' w') a w
theorem wpAny_of_K : ∀ (fuel : Nat) (listed : Array Bool) (a : Act) (w : World), wpAnyK P md ops Q s S fuel listed a w → wpAny P md ops Q fuel listed a w
  | 0, _, _, _, h => h
  | fuel + 1, _, _, _, h => ⟨h.1, fun i hi => wpOp_mono (fun a' w' h' => wpAny_of_K fuel _ a' w' h'.2) (h.2 i hi)⟩
theorem getD_set_self {l : Array Bool} {i s : Nat} (h : i ≠ s) : (l.setIfInBounds i true).getD s false = l.getD s false := getD_set_ne false h
/-- what has come up has waited for all that it waits for -/
def DownL (md : Region.Mode) (ops : Array Oper) (listed : Array Bool) : Prop := ∀ j oj, ops[j]? = some oj → listed.getD j false = true → ∀ e ∈ oj.after, Region.binds md e = true → listed.getD e.on false = true
theorem DownL.set {listed : Array Bool} (h : DownL md ops listed) {j : Nat} (hj : j ∈ Region.ready md ops listed) : DownL md ops (listed.setIfInBounds j true) := by
  intro k ok hk hl e he hb
  have mono : ∀ m, listed.getD m false = true → (listed.setIfInBounds j true).getD m false = true := fun m hm => by
    by_cases hmj : j = m
    · subst hmj
      have : j < listed.size := by
        rcases Nat.lt_or_ge j listed.size with h | h
        · exact h
        · simp [Array.getElem?_eq_none h] at hm
      simp [this]
    · rw [getD_set_ne false hmj]; exact hm
  refine mono _ ?_
  by_cases hkj : j = k
  · subst hkj
    obtain ⟨-, oj, hoj, hall⟩ := mem_ready.1 hj
    rw [hk] at hoj
    cases hoj
    exact by simpa using hall e he hb
  · rw [getD_set_ne false hkj] at hl
    exact h k ok hk hl e he hb
theorem DownL.none (n : Nat) : DownL md ops (Array.replicate n false) := by
  intro j oj _ hl
  rcases Nat.lt_or_ge j n with h | h <;> simp [h] at hl
/-- an operation that yields the same in every world -/
theorem wpAnyK_firstU {i : Nat} {oi : Oper} {v : Value} (hi : ops[i]? = some oi) (hsel : ∀ (j : Nat) (o : Oper) cs b, ops[j]? = some o → o.op ≠ .select cs b)
    (hQ : ∀ c a w, Q (.panic c) (a.put oi.dst v) w → Q (.panic c) a w) (his : i ≠ s) :
    ∀ (fuel : Nat) (listed : Array Bool) (a : Act) (w : World),
      (∀ j oj, ops[j]? = some oj → j ≠ i → listed.getD j true = false → (∀ e ∈ oj.after, Region.binds md e = true → e.on ≠ i) → oi.apart ops oj = true) →
      i ∈ Region.ready md ops listed → YieldsIf P ops (fun _ => True) oi v a → (listed.getD s false = false → S w) →
      wpAnyK P md ops Q s S fuel (listed.setIfInBounds i true) (a.put oi.dst v) w → wpAnyK P md ops Q s S (fuel + 1) listed a w := by
  intro fuel
  induction fuel with
  | zero =>
    intro listed a w _ hr hy hS H
    refine ⟨fun h => (by rw [h] at hr; cases hr), fun j hj => ?_⟩
    by_cases hji : j = i
    · subst hji; exact hy.wpOp hi trivial ⟨fun h => hS (by rwa [getD_set_self his] at h), H⟩
    · have := ready_mono hj hji
      rw [H.1] at this
      cases this
  | succ fuel ih =>
    intro listed a w hfree hr hy hS H
    refine ⟨fun h => (by rw [h] at hr; cases hr), fun j hj => ?_⟩
    by_cases hji : j = i
    · subst hji; exact hy.wpOp hi trivial ⟨fun h => hS (by rwa [getD_set_self his] at h), H⟩
    · have h1 := H.2 j (ready_mono hj hji)
      obtain ⟨hjun, oj, hoj, hall⟩ := mem_ready.1 hj
      have hnot : ∀ e ∈ oj.after, Region.binds md e = true → e.on ≠ i := fun e he hb heq => by
        have h1 := hall e he hb
        have h0 := (mem_ready.1 hr).1
        rw [heq] at h1
        rcases Nat.lt_or_ge i listed.size with h' | h'
        · simp [h'] at h0 h1; rw [h0] at h1; cases h1
        · simp [Array.getElem?_eq_none h'] at h1
      have h2 := wpOp_putIf hoj (hfree j oj hoj hji hjun hnot) (fun cs b => hsel i oi cs b hi) (fun cs b => hsel j oj cs b hoj) hQ hy h1
      have hfree' : ∀ k ok, ops[k]? = some ok → k ≠ i → (listed.setIfInBounds j true).getD k true = false →
          (∀ e ∈ ok.after, Region.binds md e = true → e.on ≠ i) → oi.apart ops ok = true := fun k ok hk hki hun hno => by
        refine hfree k ok hk hki ?_ hno
        by_cases hjk : j = k
        · subst hjk; exact hjun
        · rw [getD_set_ne true hjk] at hun; exact hun
      have hcom : ∀ (h : (listed.setIfInBounds j true).getD s false = false), ((listed.setIfInBounds i true).setIfInBounds j true).getD s false = false := fun h => by
        rw [Array.setIfInBounds_comm _ _ (Ne.symm hji), getD_set_self his]; exact h
      refine wpOp_mono (fun a' w' h3 => ⟨fun h => h3.2.1 (hcom h), ih (listed.setIfInBounds j true) a' w' hfree' (ready_mono hr (Ne.symm hji)) h3.1 (fun h => h3.2.1 (hcom h)) ?_⟩) h2
      rw [Array.setIfInBounds_comm _ _ hji]
      exact h3.2.2
theorem wpAnyK_first {i : Nat} {oi : Oper} {v : Value} (hi : ops[i]? = some oi) (hsel : ∀ (j : Nat) (o : Oper) cs b, ops[j]? = some o → o.op ≠ .select cs b)
    (hQ : ∀ c a w, Q (.panic c) (a.put oi.dst v) w → Q (.panic c) a w) (his : i ≠ s) (hwait : ∀ os, ops[s]? = some os → ∃ e ∈ os.after, Region.binds md e = true ∧ (e.on = i ∨ ∃ om, ops[e.on]? = some om ∧ ∃ e' ∈ om.after, Region.binds md e' = true ∧ e'.on = i)) :
    ∀ (fuel : Nat) (listed : Array Bool) (a : Act) (w : World),
      (∀ j oj, ops[j]? = some oj → j ≠ i → listed.getD j true = false → (∀ e ∈ oj.after, Region.binds md e = true → e.on ≠ i) → oi.apart ops oj = true) →
      i ∈ Region.ready md ops listed → DownL md ops listed → listed.getD s false = false → YieldsIf P ops S oi v a → S w →
      wpAnyK P md ops Q s S fuel (listed.setIfInBounds i true) (a.put oi.dst v) w → wpAnyK P md ops Q s S (fuel + 1) listed a w := by
  intro fuel
  induction fuel with
  | zero =>
    intro listed a w _ hr hdn hl hy hS H
    refine ⟨fun h => (by rw [h] at hr; cases hr), fun j hj => ?_⟩
    by_cases hji : j = i
    · subst hji; exact hy.wpOp hi hS ⟨fun _ => hS, H⟩
    · have := ready_mono hj hji
      rw [H.1] at this
      cases this
  | succ fuel ih =>
    intro listed a w hfree hr hdn hl hy hS H
    refine ⟨fun h => (by rw [h] at hr; cases hr), fun j hj => ?_⟩
    by_cases hji : j = i
    · subst hji; exact hy.wpOp hi hS ⟨fun _ => hS, H⟩
    · have h1 := H.2 j (ready_mono hj hji)
      obtain ⟨hjun, oj, hoj, hall⟩ := mem_ready.1 hj
      have hun : ∀ e : Edge, e.on = i → ¬ (listed.getD e.on false = true) := fun e heq h1 => by
        have h0 := (mem_ready.1 hr).1
        rw [heq] at h1
        rcases Nat.lt_or_ge i listed.size with h' | h'
        · simp [h'] at h0 h1; rw [h0] at h1; cases h1
        · simp [Array.getElem?_eq_none h'] at h1
      have hnot : ∀ e ∈ oj.after, Region.binds md e = true → e.on ≠ i := fun e he hb heq => hun e heq (by simpa using hall e he hb)
      have hjs : j ≠ s := by
        rintro rfl
        obtain ⟨e, he, hb, heq | ⟨om, hom, e', he', hb', heq⟩⟩ := hwait oj hoj
        · exact hnot e he hb heq
        · exact hun e' heq (hdn _ om hom (by simpa using hall e he hb) e' he' hb')
      have h2 := wpOp_putIf hoj (hfree j oj hoj hji hjun hnot) (fun cs b => hsel i oi cs b hi) (fun cs b => hsel j oj cs b hoj) hQ hy h1
      have hfree' : ∀ k ok, ops[k]? = some ok → k ≠ i → (listed.setIfInBounds j true).getD k true = false →
          (∀ e ∈ ok.after, Region.binds md e = true → e.on ≠ i) → oi.apart ops ok = true := fun k ok hk hki hun hno => by
        refine hfree k ok hk hki ?_ hno
        by_cases hjk : j = k
        · subst hjk; exact hjun
        · rw [getD_set_ne true hjk] at hun; exact hun
      have hl1 : (listed.setIfInBounds j true).getD s false = false := by rw [getD_set_self hjs]; exact hl
      have hl2 : ((listed.setIfInBounds i true).setIfInBounds j true).getD s false = false := by rw [getD_set_self hjs, getD_set_self his]; exact hl
      refine wpOp_mono (fun a' w' h3 => ⟨fun _ => h3.2.1 hl2, ih (listed.setIfInBounds j true) a' w' hfree' (ready_mono hr (Ne.symm hji)) (hdn.set hj) hl1 h3.1 (h3.2.1 hl2) ?_⟩) h2
      rw [Array.setIfInBounds_comm _ _ hji]
      exact h3.2.2
end

def waitsB (L : Array Oper) (s i : Nat) : Bool := !(Nat.beq i s) && (match L[s]? with | some o => o.after.toList.any (fun e => Region.binds .any e && (Nat.beq e.on i || (match L[e.on]? with | some m => m.after.toList.any (fun e' => Region.binds .any e' && Nat.beq e'.on i) | none => false))) | none => true)
section
variable {P : Program} {n : Fr} {L : List Oper} {Q : Exit → Act → World → Prop} {kn : Kn} {w : World} {S : World → Prop} {s : Nat} {late : Bool}
def vK (P : Program) (n : Fr) (L : List Oper) (Q : Exit → Act → World → Prop) (s : Nat) (S : World → Prop) (late : Bool) (plan : List (Nat × Bool)) (kn : Kn) (w : World) : Prop :=
  ∀ a listed, okQ Q → Region.noSelect L.toArray = true → K n kn a → planD L.toArray plan listed = true → listed.getD s false = late → listed.size = L.length → DownL .any L.toArray listed → wpAnyK P .any L.toArray Q s S plan.length listed a w
def NK (P : Program) (L : List Oper) (Q : Exit → Act → World → Prop) (s : Nat) (S : World → Prop) (late : Bool) (plan : List (Nat × Bool)) (a : Act) (w : World) : Prop :=
  (late = false → S w) ∧ (okQ Q → Region.noSelect L.toArray = true → ∀ listed, planD L.toArray plan listed = true → listed.getD s false = late → listed.size = L.length → DownL .any L.toArray listed → wpAnyK P .any L.toArray Q s S plan.length listed a w)
theorem vk_next {plan : List (Nat × Bool)} (hS : S w) (h : S w → vK P n L Q s S false plan kn w) : vN n (NK P L Q s S false plan) kn w := fun a ha => ⟨fun _ => hS, fun hQ hsel listed hl hs hz hdn => h hS a listed hQ hsel ha hl hs hz hdn⟩
theorem vk_late {plan : List (Nat × Bool)} (h : vK P n L Q s S true plan kn w) : vN n (NK P L Q s S true plan) kn w := fun a ha => ⟨(fun h => by cases h), fun hQ hsel listed hl hs hz hdn => h a listed hQ hsel ha hl hs hz hdn⟩
theorem vk_end (h : vcQ n Q .normal kn w) : vK P n L Q s S late [] kn w := fun a listed hQ hsel ha hl hs hz hdn => by
  simp only [planD, List.isEmpty_iff] at hl
  exact ⟨hl, h a ha⟩
theorem waits_spec {ops : Array Oper} {s i : Nat} (h : waitsB ops s i = true) : i ≠ s ∧ ∀ os, ops[s]? = some os → ∃ e ∈ os.after, Region.binds .any e = true ∧ (e.on = i ∨ ∃ om, ops[e.on]? = some om ∧ ∃ e' ∈ om.after, Region.binds .any e' = true ∧ e'.on = i) := by
  unfold waitsB at h
  simp only [Bool.and_eq_true, Bool.not_eq_true'] at h
  refine ⟨(fun e => by subst e; simp at h), fun os hos => ?_⟩
  rw [hos] at h
  obtain ⟨e, he, h2⟩ := List.any_eq_true.1 h.2
  simp only [Bool.and_eq_true] at h2
  simp only [Bool.or_eq_true] at h2
  refine ⟨e, by simpa using he, h2.1, ?_⟩
  rcases h2.2 with h3 | h3
  · exact .inl (Nat.eq_of_beq_eq_true h3)
  · right
    cases hm : ops[e.on]? with
    | none => rw [hm] at h3; cases h3
    | some om =>
      rw [hm] at h3
      obtain ⟨e', he', h4⟩ := List.any_eq_true.1 h3
      simp only [Bool.and_eq_true] at h4
      exact ⟨om, rfl, e', by simpa using he', h4.1, Nat.eq_of_beq_eq_true h4.2⟩
theorem vk_take {i : Nat} {o : Oper} {v : Value} {r : List (Nat × Bool)} (hi : nth L i = some o) (hw : gd L kn o.guard = some true) (hd : okDst n o.dst = true) (hwt : waitsB L.toArray s i = true)
    (hS : S w) (y : ∀ w', S w' → Y P n kn w' o v) (next : vK P n L Q s S false r (put o.dst v kn) w) : vK P n L Q s S false ((i, true) :: r) kn w := by
  intro a listed hQ hsel ha hl hs hz hdn
  simp only [planD, Bool.and_eq_true] at hl
  rw [nth_eq] at hi
  obtain ⟨h1, h2⟩ := waits_spec hwt
  exact wpAnyK_first (oi := o) (v := v) (by simpa using hi) (Region.noSelect_spec hsel) (fun c a w h => hQ c _ _ w (put_defers _ _ _) h) h1 h2 _ listed a w (Region.free_spec (by simpa using hi) hl.1.2) (by simpa using hl.1.1) hdn hs
    (.inl ⟨ha.gd hw, fun w' hS' => y w' hS' a ha⟩) hS (next _ _ hQ hsel (ha.put hd v) hl.2 (by rw [getD_set_self h1]; exact hs) (by simpa using hz) (hdn.set (by simpa using hl.1.1)))
theorem vk_takeU {i : Nat} {o : Oper} {v : Value} {r : List (Nat × Bool)} (hi : nth L i = some o) (hw : gd L kn o.guard = some true) (hd : okDst n o.dst = true) (his : Nat.beq i s = false)
    (hS : late = false → S w) (y : ∀ w', Y P n kn w' o v) (next : vK P n L Q s S late r (put o.dst v kn) w) : vK P n L Q s S late ((i, true) :: r) kn w := by
  intro a listed hQ hsel ha hl hs hz hdn
  simp only [planD, Bool.and_eq_true] at hl
  rw [nth_eq] at hi
  have h1 : i ≠ s := fun e => by subst e; simp at his
  exact wpAnyK_firstU (oi := o) (v := v) (by simpa using hi) (Region.noSelect_spec hsel) (fun c a w h => hQ c _ _ w (put_defers _ _ _) h) h1 _ listed a w (Region.free_spec (by simpa using hi) hl.1.2) (by simpa using hl.1.1)
    (.inl ⟨ha.gd hw, fun w' _ => y w' a ha⟩) (fun h => hS (by rw [← hs]; exact h)) (next _ _ hQ hsel (ha.put hd v) hl.2 (by rw [getD_set_self h1]; exact hs) (by simpa using hz) (hdn.set (by simpa using hl.1.1)))
theorem vk_do {i : Nat} {o : Oper} {r : List (Nat × Bool)} (hi : nth L i = some o) (hlt : Nat.blt i L.length = true) (e : vS P n L Q o (NK P L Q s S (late || Nat.beq i s) r) kn w) : vK P n L Q s S late ((i, false) :: r) kn w := by
  intro a listed hQ hsel ha hl hs hz hdn
  simp only [planD, Bool.and_eq_true, beq_iff_eq] at hl
  rw [nth_eq] at hi
  refine ⟨(fun h => by rw [hl.1] at h; cases h), fun j hj => ?_⟩
  rw [hl.1] at hj
  obtain rfl : j = i := by simpa using hj
  have hlate : (listed.setIfInBounds j true).getD s false = (late || Nat.beq j s) := by
    by_cases hjs : j = s
    · subst hjs
      have : j < listed.size := by rw [hz]; simpa [Nat.blt_eq] using hlt
      simp [this]
    · rw [getD_set_self hjs, hs]
      cases h : Nat.beq j s
      · simp
      · exact absurd (Nat.eq_of_beq_eq_true h) hjs
  have he := e a ha
  unfold wpOp
  simp only [List.getElem?_toArray, hi]
  split
  · rename_i hw
    rw [if_pos hw] at he
    exact he.imp (Oper.wp_mono (fun a' w' h => ⟨fun h2 => h.1 (by rw [← hlate]; exact h2), h.2 hQ hsel _ hl.2 hlate (by simpa using hz) (hdn.set (by rw [hl.1]; simp))⟩)) id
  · rename_i hw
    rw [if_neg hw] at he
    exact ⟨fun h2 => he.1 (by rw [← hlate]; exact h2), he.2 hQ hsel _ hl.2 hlate (by simpa using hz) (hdn.set (by rw [hl.1]; simp))⟩
theorem vk_draw {id : Nat} (hm : P.follows .mixedOrders = true) (plan : List (Nat × Bool)) (s : Nat) (S : World → Prop) (hS0 : S w) (hsel : Region.noSelect L.toArray = true) (hQ : okQ Q) (hlen : plan.length = L.length) (hplan : planD L.toArray plan (Array.replicate L.length false) = true) (hs : Nat.blt s L.length = true)
    (h : ∀ w', Chg [] w w' → vK P n L Q s S false plan kn w') : vcC P n (.region id L.toArray true) Q kn w := by
  intro a ha
  refine wp_region_any hm (wpAny_of_K (s := s) (S := S) _ _ _ _ ?_)
  have hs' : s < L.length := by simpa [Nat.blt_eq] using hs
  have := h w.drew (Chg.drew w) a (Array.replicate L.length false) hQ hsel ha hplan (by simp [hs']) (by simp) (DownL.none _)
  rw [hlen] at this
  rw [List.size_toArray]
  exact this
end
end Sx


namespace Go.Proofs.YtnmhlpnapgojjaaDoor
open Go.RowKit Sx LexS _root_.Go.Proofs.Tryd
set_option linter.unusedVariables false
set_option linter.unusedSimpArgs false
section
variable {n0 : Nat}

set_option maxHeartbeats 1000000 in
theorem pcopyE_any : ∀ (n : Nat) (es : List Ex), szo es = n → OkEs es → ∀ (oa : Option Addr) (cap : Nat) (w : World), ExRow w (· < n0) oa es → n0 ≤ w.heap.size →
    Ret Tryd.prog 121 [.slice oa es.length cap] w fun v w' => ∃ oq cq Sq, v = .slice oq es.length cq ∧ ExRQ w' oq cq es Sq ∧ Nw w.heap.size Sq ∧ Chg [] w w' := by
 intro n
 refine Nat.strongRecOn n fun n ih => ?_
 intro es hn hok oa cap w hr hn0
 subst hn
 have hle := hok.1
 refine ret_of [_] func121 rfl ntmps121 rfl ?_
 have st := St.init w []
 obtain ⟨w0, rfl⟩ : ∃ w0, w0 = w := ⟨_, rfl⟩
 replace st := St.pushR (r := .tree [] (fun w => ExSs 63 w [] [] [])) st (Chg.refl _ _) (holds_of (by simp [ExSs]) (by simp) (fun a b h hk => h.kept hk)) (by simp [Res.at?])
 replace st := st.ownNil 63 6
 refine vc_seq (vc_region ?_)
 refine vc_y rfl rfl (y_as rfl) ?_
 refine vc_end (vq_then (vc_keep [(0, _)] ⟨rfl, trivial⟩ (vc_seq (vc_region ?_))))
 refine vc_y rfl rfl (y_as rfl) ?_
 refine vc_end (vq_then (vc_keep [(0, _), (3, _)] ⟨rfl, rfl, trivial⟩ (vc_seq (vc_seq (vc_region ?_)))))
 refine vc_y rfl rfl (y_mv rfl) ?_
 refine vc_y rfl rfl (y_lensl rfl underlying61) ?_
 refine vc_y rfl rfl (y_mv rfl) ?_
 refine vc_end (vq_then (vc_keep [(3, _), (6, _), (7, _), (8, _)] ⟨rfl, rfl, rfl, rfl, trivial⟩ (vc_block ?_)))
 refine vc_loop (w0 := w0) (M := []) (fun (y : Nat × Option Addr × Nat × List Value × List Nat) => [(3, .slice y.2.1 y.1 y.2.2.1), (6, .slice oa es.length cap), (7, .int .i64 (es.length : Int)), (8, .int .i64 (y.1 : Int))]) (fun y => [.own (.slice y.2.1 y.1 y.2.2.1) 63 6 y.1 y.2.2.2.1, .tree y.2.2.2.2 (fun w => ExSs 63 w (es.take y.1) y.2.2.2.1 y.2.2.2.2)]) (fun y _ => y.1 ≤ es.length ∧ Nw w0.heap.size y.2.2.2.2) (fun y => es.length - y.1) (0, none, 0, [], []) ⟨rfl, rfl, rfl, rfl, trivial⟩ (by simpa using st) ⟨by simp, Nw.nil⟩ ?_
 clear st
 rintro ⟨j, oj, cj, xs, S⟩ w ⟨hj, hSS⟩ st
 dsimp only at *
 refine vc_seq (vc_region ?_)
 refine vc_y rfl rfl (y_lss rfl rfl) ?_
 refine vc_end (vq_then (vc_keep [(3, _), (6, _), (7, _), (8, _), (9, _)] ⟨rfl, rfl, rfl, rfl, rfl, trivial⟩ (vc_seq ?_)))
 refine vc_ifs rfl ?_ ?_
 ·
  intro hc9
  try simp only [dn] at hc9
  have stK := st
  obtain ⟨e, hej⟩ : ∃ e, es[j]? = some e := ⟨_, List.getElem?_eq_getElem (by omega)⟩
  obtain ⟨gb, go, rfl, hgS, hgl, hg⟩ := ExRow.at hr (by omega)
  obtain ⟨o0, c0, hV0, hr0, hc0⟩ := hg j e hej
  have hke := hok.2 j e hej
  have hz := mem_size hej
  have hz2 : szo e.kids < szo es := by have : szo e.kids < szo e := by cases e; exact ex_size
                                       omega
  have st := stK
  clear stK
  refine vc_code_skip (vq_then (vc_keep [(3, _), (6, _), (7, _), (8, _)] ⟨rfl, rfl, rfl, rfl, trivial⟩ (vc_seq (vc_block (vc_seq (vc_region ?_))))))
  refine vc_y rfl rfl ((by exact y_ia (k := j) rfl rfl underlying61 sizeOf63 rfl (by omega))) ?_
  refine vc_y rfl rfl ((by exact y_ldca (exL e o0 c0) rfl isAgg63 sizeOf63 rfl (fun i v hi => st.chg.cell (hc0 i v hi) (by simp)))) ?_
  refine vc_e (e_al (l := [_, _, _, _, _, _]) st rfl rfl zeroValue63 rfl ?_)
  intro b5 w hb5 st
  refine vc_e (e_sts (vs := [_, _, _, _, _, _]) st 0 rfl rfl rfl rfl rfl sizeOf63 rfl rfl (by first | (right; assumption) | (left; simp)) ?_)
  intro w st; dsimp only [setNth, wr] at st
  refine vc_end (vq_then (vc_keep [(3, _), (5, _), (6, _), (7, _), (8, _)] ⟨rfl, rfl, rfl, rfl, rfl, trivial⟩ (vc_seq (vc_region ?_))))
  refine vc_y rfl rfl ((by exact y_faz (k := 4) rfl underlying63 rfl rfl sizeOf61 rfl)) ?_
  refine vc_y rfl rfl ((by exact y_ld st 0 rfl isAgg61 rfl rfl)) ?_
  refine vc_e (e_call [_] rfl rfl call121 rfl (ih _ hz2 e.kids rfl hke.kids _ _ _ (hr0.kept (Same.of_nil st.chg)) (Nat.le_trans hn0 st.chg.size)) ?_)
  rintro _ w ⟨oq, cq, Sq, rfl, hQ, hN, cw⟩
  have hN9 := hN.le st.chg.size
  replace st := St.pushR (r := .tree Sq (fun w => ExRQ w oq cq e.kids Sq)) st cw (holds_of hQ hQ.lt (fun a b h hk => h.kept hk)) hN.2
  refine vc_y rfl rfl ((by exact y_faz (k := 4) rfl underlying63 rfl rfl sizeOf61 rfl)) ?_
  refine vc_e (e_st st 1 rfl rfl rfl rfl sizeOf61 rfl rfl (by first | (right; assumption) | (left; simp)) ?_)
  intro w st; dsimp only [setNth, wr] at st
  refine vc_end (vq_then (vc_keep [(3, _), (5, _), (6, _), (7, _), (8, _)] ⟨rfl, rfl, rfl, rfl, rfl, trivial⟩ (vc_region ?_)))
  refine vc_y rfl rfl (y_mv rfl) ?_
  refine vc_y rfl rfl ((by exact y_lda (vs := [_, _, _, _, _, _]) st 1 rfl isAgg63 sizeOf63 rfl rfl)) ?_
  refine vc_e (e_bs1 (l := [_, _, _, _, _, _]) st rfl rfl rfl rfl underlying61 sizeOf63 rfl rfl rfl zeroValue63 ?_)
  intro b18 w hb18 st
  refine vc_e (e_app (bytes := 64) st 3 0 rfl rfl rfl rfl rfl rfl underlying61 Tryd.info63 rfl rfl rfl rfl rfl (by simp) rfl rfl (by unfold maxLen; omega) (by omega) ?_)
  intro oaQ capQ w st; dsimp only [setNth] at st
  refine vc_y rfl rfl (y_as rfl) ?_
  refine vc_end (vq_block (vq_then (vc_keep [(3, _), (6, _), (7, _), (8, _)] ⟨rfl, rfl, rfl, rfl, trivial⟩ (vc_region ?_))))
  have hne : ∀ b ∈ S, b ∉ Sq := fun b hb => st.ne (i := 4) (j := 1) (by decide) rfl rfl b hb
  have stN := st.pick [4, 1, 3] rfl (by decide)
  have h1 := (stN.res (i := 0) rfl).1
  have h2 := (stN.res (i := 1) rfl).1
  have h3 : ExSs 63 w (es.take (j + 1)) (xs ++ exL e oq cq) (S ++ Sq) := by rw [take_snoc hej]; exact ExSs.snoc h1 (ExS_iff.2 ⟨oq, cq, rfl, h2⟩)
  replace stN := (stN.join (q := .tree (S ++ Sq) fun w => ExSs 63 w (es.take (j + 1)) (xs ++ exL e oq cq) (S ++ Sq)) (fun k hk => List.mem_append.1 hk) (holds_of h3 h3.lt (fun a b h hk => h.kept hk))).pick [1, 0] rfl (by decide)
  refine vc_y rfl rfl (y_add rfl rfl (by omega : _ = ((j + 1 : Nat) : Int)) (by omega) (by omega)) ?_
  refine vc_y rfl rfl (y_mv rfl) ?_
  refine vc_end ?_
  refine vq_again (j + 1, oaQ, capQ, xs ++ exL e oq cq, S ++ Sq)  ⟨rfl, rfl, rfl, rfl, trivial⟩ stN ?_ ?_
  ·
   exact ⟨by dsimp only; omega, hSS.app hN9 hne⟩
  ·
   dsimp only; omega
 ·
  intro hc9
  try simp only [dn] at hc9
  refine vc_exit (vq_then_exit (vq_then_exit (vq_block_exit (vq_then (vc_keep [(3, _)] ⟨rfl, trivial⟩ (vc_seq (vc_region ?_)))))))
  refine vc_y rfl rfl (y_mv rfl) ?_
  refine vc_y rfl rfl (y_as rfl) ?_
  refine vc_end (vq_then (vc_keep [(2, _)] ⟨rfl, trivial⟩ (vc_ret ?_)))
  refine vq_ret1 st (.inl rfl) results121 (.tmp rfl) ?_
  refine ⟨_, rfl, ?_⟩
  obtain rfl : j = es.length := by omega
  rw [List.take_length] at st
  obtain ⟨h1, h2⟩ := st.ownNw (i := 0) rfl
  have h3 := (st.res (i := 1) rfl).1
  exact ⟨oj, cj, obk oj ++ S, rfl, ⟨xs, S, h1, rfl, h3⟩, h2.app hSS (fun b hb => st.ne (i := 0) (j := 1) (by decide) rfl rfl b (by simpa [Res.at?, obk_own] using hb)), st.chg⟩

set_option maxHeartbeats 1000000 in
theorem pcopyS_any : ∀ (n : Nat) (es : List Sm), szo es = n → OkSs es → ∀ (oa : Option Addr) (cap : Nat) (w : World), SmRow w (· < n0) oa es → n0 ≤ w.heap.size →
    Ret Tryd.prog 98 [.slice oa es.length cap] w fun v w' => ∃ oq cq Sq, v = .slice oq es.length cq ∧ SmRQ w' oq cq es Sq ∧ Nw w.heap.size Sq ∧ Chg [] w w' := by
 intro n
 refine Nat.strongRecOn n fun n ih => ?_
 intro es hn hok oa cap w hr hn0
 subst hn
 have hle := hok.1
 refine ret_of [_] func98 rfl ntmps98 rfl ?_
 have st := St.init w []
 obtain ⟨w0, rfl⟩ : ∃ w0, w0 = w := ⟨_, rfl⟩
 replace st := St.pushR (r := .tree [] (fun w => SmSs 63 70 w [] [] [])) st (Chg.refl _ _) (holds_of (by simp [SmSs]) (by simp) (fun a b h hk => h.kept hk)) (by simp [Res.at?])
 replace st := st.ownNil 70 7
 refine vc_seq (vc_region ?_)
 refine vc_y rfl rfl (y_as rfl) ?_
 refine vc_end (vq_then (vc_keep [(0, _)] ⟨rfl, trivial⟩ (vc_seq (vc_region ?_))))
 refine vc_y rfl rfl (y_as rfl) ?_
 refine vc_end (vq_then (vc_keep [(0, _), (3, _)] ⟨rfl, rfl, trivial⟩ (vc_seq (vc_seq (vc_region ?_)))))
 refine vc_y rfl rfl (y_mv rfl) ?_
 refine vc_y rfl rfl (y_lensl rfl underlying40) ?_
 refine vc_y rfl rfl (y_mv rfl) ?_
 refine vc_end (vq_then (vc_keep [(3, _), (6, _), (7, _), (8, _)] ⟨rfl, rfl, rfl, rfl, trivial⟩ (vc_block ?_)))
 refine vc_loop (w0 := w0) (M := []) (fun (y : Nat × Option Addr × Nat × List Value × List Nat) => [(3, .slice y.2.1 y.1 y.2.2.1), (6, .slice oa es.length cap), (7, .int .i64 (es.length : Int)), (8, .int .i64 (y.1 : Int))]) (fun y => [.own (.slice y.2.1 y.1 y.2.2.1) 70 7 y.1 y.2.2.2.1, .tree y.2.2.2.2 (fun w => SmSs 63 70 w (es.take y.1) y.2.2.2.1 y.2.2.2.2)]) (fun y _ => y.1 ≤ es.length ∧ Nw w0.heap.size y.2.2.2.2) (fun y => es.length - y.1) (0, none, 0, [], []) ⟨rfl, rfl, rfl, rfl, trivial⟩ (by simpa using st) ⟨by simp, Nw.nil⟩ ?_
 clear st
 rintro ⟨j, oj, cj, xs, S⟩ w ⟨hj, hSS⟩ st
 dsimp only at *
 refine vc_seq (vc_region ?_)
 refine vc_y rfl rfl (y_lss rfl rfl) ?_
 refine vc_end (vq_then (vc_keep [(3, _), (6, _), (7, _), (8, _), (9, _)] ⟨rfl, rfl, rfl, rfl, rfl, trivial⟩ (vc_seq ?_)))
 refine vc_ifs rfl ?_ ?_
 ·
  intro hc9
  try simp only [dn] at hc9
  have stK := st
  obtain ⟨s, hsj⟩ : ∃ s, es[j]? = some s := ⟨_, List.getElem?_eq_getElem (by omega)⟩
  obtain ⟨gb, go, rfl, hgS, hgl, hg⟩ := SmRow.at hr (by omega)
  obtain ⟨oe, ob, ol, ce, cb, cl, hsV, hse, hsb, hsl, hc⟩ := hg j s hsj
  have hks := hok.2 j s hsj
  have hz := mem_size hsj
  have hB : szo s.body < szo es := by have : szo s.body < szo s := by cases s; exact sm_size.1
                                      omega
  have hL : szo s.els < szo es := by have : szo s.els < szo s := by cases s; exact sm_size.2
                                     omega
  have st := stK
  clear stK
  refine vc_code_skip (vq_then (vc_keep [(3, _), (6, _), (7, _), (8, _)] ⟨rfl, rfl, rfl, rfl, trivial⟩ (vc_seq (vc_block (vc_seq (vc_region ?_))))))
  refine vc_y rfl rfl ((by exact y_ia (k := j) rfl rfl underlying40 sizeOf70 rfl (by omega))) ?_
  refine vc_y rfl rfl ((by exact y_ldca (smL s oe ob ol ce cb cl) rfl isAgg70 sizeOf70 rfl (fun i v hi => st.chg.cell (hc i v hi) (by simp)))) ?_
  refine vc_e (e_al (l := [_, _, _, _, _, _, _]) st rfl rfl zeroValue70 rfl ?_)
  intro b5 w hb5 st
  refine vc_e (e_sts (vs := [_, _, _, _, _, _, _]) st 0 rfl rfl rfl rfl rfl sizeOf70 rfl rfl (by first | (right; assumption) | (left; simp)) ?_)
  intro w st; dsimp only [setNth, wr] at st
  refine vc_end (vq_then (vc_keep [(3, _), (5, _), (6, _), (7, _), (8, _)] ⟨rfl, rfl, rfl, rfl, rfl, trivial⟩ (vc_seq ?_)))
  refine vk_draw Tryd.mixed [(0, true), (3, true), (6, true), (1, true), (4, true), (7, true), (2, false), (9, true), (5, false), (8, false), (10, false), (11, true), (12, false), (13, true), (14, false)] 10 (fun w => St _ _ [.blk b5 (.cells (smL s oe ob ol ce cb cl).toArray 70 (0, 0))] w) (by exact st.drop (by repeat (first | exact sl0 | apply sl1 | apply sl2))) (by kernel_rfl) (by repeat (first | exact okQ_body | refine okQ_then ?_ | refine okQ_block ?_)) rfl (by kernel_rfl) rfl ?_
  intro w cd; replace st := st.call0 cd; clear cd
  have hS : St _ _ [.blk b5 (.cells (smL s oe ob ol ce cb cl).toArray 70 (0, 0))] w := (by exact st.drop (by repeat (first | exact sl0 | apply sl1 | apply sl2)))
  refine vk_takeU rfl rfl rfl rfl (fun _ => hS) (fun w => (by exact y_faz (k := 3) rfl underlying70 rfl rfl sizeOf61 rfl)) ?_
  refine vk_takeU rfl rfl rfl rfl (fun _ => hS) (fun w => (by exact y_faz (k := 4) rfl underlying70 rfl rfl sizeOf40 rfl)) ?_
  refine vk_takeU rfl rfl rfl rfl (fun _ => hS) (fun w => (by exact y_faz (k := 5) rfl underlying70 rfl rfl sizeOf40 rfl)) ?_
  refine vk_take rfl rfl rfl rfl hS (fun w st => (by exact y_ld st 0 rfl isAgg61 rfl rfl)) ?_
  iterate 2 refine vk_take rfl rfl rfl rfl hS (fun w st => (by exact y_ld st 0 rfl isAgg40 rfl rfl)) ?_
  refine vk_do rfl rfl (e_call [_] rfl rfl call121 rfl (pcopyE_any _ s.e rfl hks.e _ _ _ (hse.kept (Same.of_nil st.chg)) (Nat.le_trans hn0 st.chg.size)) ?_)
  rintro _ w ⟨q1, c1, S1, rfl, hQ, hN, cw⟩
  have hN1 := hN.le st.chg.size
  replace st := St.pushR (r := .tree S1 (fun w => ExRQ w q1 c1 s.e S1)) st cw (holds_of hQ hQ.lt (fun a b h hk => h.kept hk)) hN.2
  refine vk_next (by exact st.drop (by repeat (first | exact sl0 | apply sl1 | apply sl2))) ?_; intro hS
  refine vk_takeU rfl rfl rfl rfl (fun _ => hS) (fun w => (by exact y_faz (k := 3) rfl underlying70 rfl rfl sizeOf61 rfl)) ?_
  refine vk_do rfl rfl (e_call [_] rfl rfl call98 rfl (ih _ hB s.body rfl hks.body _ _ _ (hsb.kept (Same.of_nil st.chg)) (Nat.le_trans hn0 st.chg.size)) ?_)
  rintro _ w ⟨q2, c2, S2, rfl, hQ, hN, cw⟩
  have hN2 := hN.le st.chg.size
  replace st := St.pushR (r := .tree S2 (fun w => SmRQ w q2 c2 s.body S2)) st cw (holds_of hQ hQ.lt (fun a b h hk => h.kept hk)) hN.2
  refine vk_next (by exact st.drop (by repeat (first | exact sl0 | apply sl1 | apply sl2))) ?_; intro hS
  refine vk_do rfl rfl (e_call [_] rfl rfl call98 rfl (ih _ hL s.els rfl hks.els _ _ _ (hsl.kept (Same.of_nil st.chg)) (Nat.le_trans hn0 st.chg.size)) ?_)
  rintro _ w ⟨q3, c3, S3, rfl, hQ, hN, cw⟩
  have hN3 := hN.le st.chg.size
  replace st := St.pushR (r := .tree S3 (fun w => SmRQ w q3 c3 s.els S3)) st cw (holds_of hQ hQ.lt (fun a b h hk => h.kept hk)) hN.2
  refine vk_next (by exact st.drop (by repeat (first | exact sl0 | apply sl1 | apply sl2))) ?_; intro hS
  refine vk_do rfl rfl (e_st st 3 rfl rfl rfl rfl sizeOf61 rfl rfl (by first | (right; assumption) | (left; simp)) ?_)
  intro w st; dsimp only [setNth, wr] at st
  refine vk_late ?_
  refine vk_takeU rfl rfl rfl rfl (fun h => by cases h) (fun w => (by exact y_faz (k := 4) rfl underlying70 rfl rfl sizeOf40 rfl)) ?_
  refine vk_do rfl rfl (e_st st 3 rfl rfl rfl rfl sizeOf40 rfl rfl (by first | (right; assumption) | (left; simp)) ?_)
  intro w st; dsimp only [setNth, wr] at st
  refine vk_late ?_
  refine vk_takeU rfl rfl rfl rfl (fun h => by cases h) (fun w => (by exact y_faz (k := 5) rfl underlying70 rfl rfl sizeOf40 rfl)) ?_
  refine vk_do rfl rfl (e_st st 3 rfl rfl rfl rfl sizeOf40 rfl rfl (by first | (right; assumption) | (left; simp)) ?_)
  intro w st; dsimp only [setNth, wr] at st
  refine vk_late ?_
  refine vk_end ?_
  refine vq_then (vc_keep [(3, _), (5, _), (6, _), (7, _), (8, _)] ⟨rfl, rfl, rfl, rfl, rfl, trivial⟩ (vc_region ?_))
  refine vc_y rfl rfl (y_mv rfl) ?_
  refine vc_y rfl rfl ((by exact y_lda (vs := [_, _, _, _, _, _, _]) st 3 rfl isAgg70 sizeOf70 rfl rfl)) ?_
  refine vc_e (e_bs1 (l := [_, _, _, _, _, _, _]) st rfl rfl rfl rfl underlying40 sizeOf70 rfl rfl rfl zeroValue70 ?_)
  intro b26 w hb26 st
  refine vc_e (e_app (bytes := 120) st 5 0 rfl rfl rfl rfl rfl rfl underlying40 Tryd.info70 rfl rfl rfl rfl rfl (by simp) rfl rfl (by unfold maxLen; omega) (by omega) ?_)
  intro oaQ capQ w st; dsimp only [setNth] at st
  refine vc_y rfl rfl (y_as rfl) ?_
  refine vc_end (vq_block (vq_then (vc_keep [(3, _), (6, _), (7, _), (8, _)] ⟨rfl, rfl, rfl, rfl, trivial⟩ (vc_region ?_))))
  have d23 := st.ne (i := 2) (j := 1) (by decide) rfl rfl
  have d12 := st.ne (i := 3) (j := 2) (by decide) rfl rfl
  have d13 := st.ne (i := 3) (j := 1) (by decide) rfl rfl
  have dS1 := st.ne (i := 6) (j := 3) (by decide) rfl rfl
  have dS2 := st.ne (i := 6) (j := 2) (by decide) rfl rfl
  have dS3 := st.ne (i := 6) (j := 1) (by decide) rfl rfl
  have hNq := hN1.app (hN2.app hN3 d23) (fun b hb hb' => (List.mem_append.1 hb').elim (d12 b hb) (d13 b hb))
  have hne : ∀ b ∈ S, b ∉ S1 ++ (S2 ++ S3) := fun b hb hb' => (List.mem_append.1 hb').elim (dS1 b hb) fun h => (List.mem_append.1 h).elim (dS2 b hb) (dS3 b hb)
  have h0 := (st.res (i := 6) rfl).1
  have h1 := (st.res (i := 3) rfl).1
  have h2 := (st.res (i := 2) rfl).1
  have h3 := (st.res (i := 1) rfl).1
  have h4 : SmSs 63 70 w (es.take (j + 1)) (xs ++ smL s q1 q2 q3 c1 c2 c3) (S ++ (S1 ++ (S2 ++ S3))) := by rw [take_snoc hsj]; exact SmSs.snoc h0 (SmS_iff.2 ⟨q1, c1, q2, c2, q3, c3, S1, S2, S3, rfl, h1, h2, h3, rfl⟩)
  have stN := (((st.pick [6, 3, 2, 1, 5] rfl (by decide)).joinN 4 (q := .tree (S ++ (S1 ++ (S2 ++ S3))) fun w => SmSs 63 70 w (es.take (j + 1)) (xs ++ smL s q1 q2 q3 c1 c2 c3) (S ++ (S1 ++ (S2 ++ S3)))) (fun k hk => by
    simp only [Res.at?, List.mem_append] at hk
    rcases hk with h | h | h | h
    · exact ⟨_, .head _, h⟩
    · exact ⟨_, .tail _ (.head _), h⟩
    · exact ⟨_, .tail _ (.tail _ (.head _)), h⟩
    · exact ⟨_, .tail _ (.tail _ (.tail _ (.head _))), h⟩) (holds_of h4 h4.lt (fun a b h hk => h.kept hk)))).pick [1, 0] rfl (by decide)
  refine vc_y rfl rfl (y_add rfl rfl (by omega : _ = ((j + 1 : Nat) : Int)) (by omega) (by omega)) ?_
  refine vc_y rfl rfl (y_mv rfl) ?_
  refine vc_end ?_
  refine vq_again (j + 1, oaQ, capQ, xs ++ smL s q1 q2 q3 c1 c2 c3, S ++ (S1 ++ (S2 ++ S3)))  ⟨rfl, rfl, rfl, rfl, trivial⟩ stN ?_ ?_
  ·
   exact ⟨by dsimp only; omega, hSS.app hNq hne⟩
  ·
   dsimp only; omega
 ·
  intro hc9
  try simp only [dn] at hc9
  refine vc_exit (vq_then_exit (vq_then_exit (vq_block_exit (vq_then (vc_keep [(3, _)] ⟨rfl, trivial⟩ (vc_seq (vc_region ?_)))))))
  refine vc_y rfl rfl (y_mv rfl) ?_
  refine vc_y rfl rfl (y_as rfl) ?_
  refine vc_end (vq_then (vc_keep [(2, _)] ⟨rfl, trivial⟩ (vc_ret ?_)))
  refine vq_ret1 st (.inl rfl) results98 (.tmp rfl) ?_
  refine ⟨_, rfl, ?_⟩
  obtain rfl : j = es.length := by omega
  rw [List.take_length] at st
  obtain ⟨h1, h2⟩ := st.ownNw (i := 0) rfl
  have h3 := (st.res (i := 1) rfl).1
  exact ⟨oj, cj, obk oj ++ S, rfl, ⟨xs, S, h1, rfl, h3⟩, h2.app hSS (fun b hb => st.ne (i := 0) (j := 1) (by decide) rfl rfl b (by simpa [Res.at?, obk_own] using hb)), st.chg⟩

end
end Go.Proofs.YtnmhlpnapgojjaaDoor


/- Trees with each name and place turned: no program in sight. -/
namespace LexS
open Sx
set_option linter.unusedVariables false
set_option linter.unusedSimpArgs false
section
variable (g : List UInt8 → List UInt8) (h : Int → Int)
mutual
def trE : Ex → Ex
  | .mk k op wd nm kids a => .mk k op wd (g nm) (trEs kids) (h a)
termination_by structural e => e
def trEs : List Ex → List Ex
  | [] => []
  | e :: r => trE e :: trEs r
termination_by structural l => l
end
mutual
def trS : Sm → Sm
  | .mk k nm other e body els a => .mk k (g nm) (g other) (trEs g h e) (trSs body) (trSs els) (h a)
termination_by structural e => e
def trSs : List Sm → List Sm
  | [] => []
  | e :: r => trS e :: trSs r
termination_by structural l => l
end
def trD (d : Dc) : Dc := ⟨g d.nm, d.wd, h d.a⟩
def trT (t : Th) : Th := ⟨g t.nm, t.locals.map (trD g h), trSs g h t.body, h t.a⟩
def trP (p : Pg) : Pg := ⟨p.shared.map (trD g h), p.locks.map (trD g h), p.threads.map (trT g h)⟩
end
variable {g : List UInt8 → List UInt8} {h : Int → Int}
theorem trEs_map (l : List Ex) : trEs g h l = l.map (trE g h) := by
  induction l with
  | nil => rfl
  | cons x r ih => simp only [trEs, List.map_cons, ih]
theorem trSs_map (l : List Sm) : trSs g h l = l.map (trS g h) := by
  induction l with
  | nil => rfl
  | cons x r ih => simp only [trSs, List.map_cons, ih]
theorem trE_eq (e : Ex) : trE g h e = .mk e.k e.op e.wd (g e.nm) (trEs g h e.kids) (h e.a) := by cases e; rfl
theorem trS_eq (s : Sm) : trS g h s = .mk s.k (g s.nm) (g s.other) (trEs g h s.e) (trSs g h s.body) (trSs g h s.els) (h s.a) := by cases s; rfl
/-- the first 'j' turned -/
def mixL {α : Type} (f : α → α) (l : List α) (j : Nat) : List α := (l.take j).map f ++ l.drop j
theorem mixL_zero {α : Type} {f : α → α} (l : List α) : mixL f l 0 = l := by simp [mixL]
theorem mixL_all {α : Type} {f : α → α} (l : List α) : mixL f l l.length = l.map f := by simp [mixL]
theorem mixL_len {α : Type} {f : α → α} (l : List α) (j : Nat) : (mixL f l j).length = l.length := by simp [mixL]; omega
theorem mixL_get {α : Type} {f : α → α} {l : List α} {j : Nat} {x : α} (hx : l[j]? = some x) : (mixL f l j)[j]? = some x := by
  have hj := (List.getElem?_eq_some_iff.1 hx).1
  unfold mixL
  rw [List.getElem?_append_right (by simp; omega), List.length_map, List.length_take, Nat.min_eq_left (by omega), Nat.sub_self, List.getElem?_drop]
  exact hx
theorem mixL_step {α : Type} {f : α → α} {l : List α} {j : Nat} {x : α} (hx : l[j]? = some x) : (mixL f l j).set j (f x) = mixL f l (j + 1) := by
  obtain ⟨hj, e⟩ := List.getElem?_eq_some_iff.1 hx
  unfold mixL
  rw [List.set_append_right _ _ (by simp; omega), List.length_map, List.length_take, Nat.min_eq_left (by omega), Nat.sub_self, List.drop_eq_getElem_cons hj, List.set_cons_zero, List.take_succ_eq_append_getElem hj, e]
  simp
end LexS


/- The engine, twenty-first part: trees that are written over in their own places. -/
namespace Sx
open Go Go.RowKit
set_option linter.unusedVariables false
set_option linter.unusedSimpArgs false

/-- a row of things, each with what hangs on it -/
def RowS {α : Type} (V : World → α → List Value → List Nat → Prop) (w : World) : List α → List Value → List Nat → Prop
  | [], xs, S => xs = [] ∧ S = []
  | e :: r, xs, S => ∃ v S1 xr Sr, xs = v ++ xr ∧ S = S1 ++ Sr ∧ V w e v S1 ∧ RowS V w r xr Sr
theorem exSs_row {tE : Nat} {w : World} : ∀ {es : List Ex} {xs : List Value} {S : List Nat}, ExSs tE w es xs S ↔ RowS (ExS tE) w es xs S
  | [], xs, S => by simp only [ExSs, RowS]
  | e :: r, xs, S => by simp only [ExSs, RowS, exSs_row (es := r)]
theorem smSs_row {tE tS : Nat} {w : World} : ∀ {es : List Sm} {xs : List Value} {S : List Nat}, SmSs tE tS w es xs S ↔ RowS (SmS tE tS) w es xs S
  | [], xs, S => by simp only [SmSs, RowS]
  | e :: r, xs, S => by simp only [SmSs, RowS, smSs_row (es := r)]
theorem thSs_row {tE tS tD : Nat} {w : World} : ∀ {es : List Th} {xs : List Value} {S : List Nat}, ThSs tE tS tD w es xs S ↔ RowS (ThS tE tS tD) w es xs S
  | [], xs, S => by simp only [ThSs, RowS]
  | e :: r, xs, S => by simp only [ThSs, RowS, thSs_row (es := r)]
section
variable {α : Type} {V : World → α → List Value → List Nat → Prop} {w w' : World} {sz : Nat}
theorem RowS.kept (hV : ∀ w w' x v S, V w x v S → (∀ b ∈ S, w'.heap[b]? = w.heap[b]?) → V w' x v S) : ∀ {es : List α} {xs : List Value} {S : List Nat}, RowS V w es xs S → (∀ b ∈ S, w'.heap[b]? = w.heap[b]?) → RowS V w' es xs S
  | [], xs, S, h, hk => h
  | e :: r, xs, S, h, hk => by
    obtain ⟨v, S1, xr, Sr, rfl, rfl, h1, h2⟩ := h
    exact ⟨v, S1, xr, Sr, rfl, rfl, hV _ _ _ _ _ h1 (fun b hb => hk b (List.mem_append.2 (.inl hb))), RowS.kept hV h2 (fun b hb => hk b (List.mem_append.2 (.inr hb)))⟩
/-- one of a row looked at; and another put in its place -/
theorem RowS.focus (hlen : ∀ w x v S, V w x v S → v.length = sz) (hV : ∀ w w' x v S, V w x v S → (∀ b ∈ S, w'.heap[b]? = w.heap[b]?) → V w' x v S) : ∀ {es : List α} {xs : List Value} {S : List Nat} {j : Nat} {e : α}, RowS V w es xs S → es[j]? = some e →
    ∃ v Sj S1 S2 xa xb, xs = xa ++ v ++ xb ∧ xa.length = j * sz ∧ S = S1 ++ Sj ++ S2 ∧ V w e v Sj ∧
      ∀ (w' : World) (e' : α) (v' : List Value), V w' e' v' Sj → (∀ b ∈ S1 ++ S2, w'.heap[b]? = w.heap[b]?) → RowS V w' (es.set j e') (xa ++ v' ++ xb) S
  | [], xs, S, j, e, h, hj => by simp at hj
  | x :: r, xs, S, 0, e, h, hj => by
    obtain ⟨v, S1, xr, Sr, rfl, rfl, h1, h2⟩ := h
    simp only [List.getElem?_cons_zero, Option.some.injEq] at hj
    subst hj
    refine ⟨v, S1, [], Sr, [], xr, by simp, by simp, by simp, h1, fun w' e' v' hv' hk => ?_⟩
    refine ⟨v', S1, xr, Sr, by simp, rfl, hv', RowS.kept hV h2 fun b hb => hk b (by simpa using hb)⟩
  | x :: r, xs, S, j + 1, e, h, hj => by
    obtain ⟨v, S1, xr, Sr, rfl, rfl, h1, h2⟩ := h
    obtain ⟨u, Sj, T1, T2, xa, xb, rfl, h3, rfl, h4, h5⟩ := RowS.focus hlen hV h2 (by simpa using hj)
    refine ⟨u, Sj, S1 ++ T1, T2, v ++ xa, xb, by simp, by rw [List.length_append, hlen _ _ _ _ h1, h3, Nat.succ_mul]; omega, by simp, h4, fun w' e' v' hv' hk => ?_⟩
    refine ⟨v, S1, xa ++ v' ++ xb, T1 ++ Sj ++ T2, by simp, by simp, hV _ _ _ _ _ h1 fun b hb => hk b (by simp [hb]), ?_⟩
    exact h5 w' e' v' hv' fun b hb => hk b (by simp only [List.mem_append] at hb ⊢; rcases hb with h | h; exact .inl (.inr h); exact .inr h)
/-- a row in a block of its own -/
def RowT {α : Type} (V : World → α → List Value → List Nat → Prop) (E sz : Nat) (w : World) (oa : Option Addr) (cap : Nat) (es : List α) (S : List Nat) : Prop := ∃ xs S', w.ownsRow 0 E sz (.slice oa es.length cap) es.length xs ∧ S = obk oa ++ S' ∧ RowS V w es xs S'
/-- the cells of one; a cell of it stored; what hangs on it turned -/
theorem RowT.focus {E : Nat} (hsz : 0 < sz) (hlen : ∀ w x v S, V w x v S → v.length = sz) (hV : ∀ w w' x v S, V w x v S → (∀ b ∈ S, w'.heap[b]? = w.heap[b]?) → V w' x v S) {oa : Option Addr} {cap : Nat} {es : List α} {S : List Nat} {j : Nat} {e : α} (h : RowT V E sz w oa cap es S) (hS : S.Nodup) (hj : es[j]? = some e) :
    ∃ b v Sj S1 S2, oa = some ⟨b, 0, none⟩ ∧ b < w.heap.size ∧ S = [b] ++ (S1 ++ Sj ++ S2) ∧ V w e v Sj ∧ (∀ i u, v[i]? = some u → w.cell? ⟨b, j * sz + i, none⟩ = some u) ∧ (∀ i, w.frozen? ⟨b, i, none⟩ = false) ∧
      (∀ (i : Nat) (u : Value) (e' : α), i < sz → V w e' (v.set i u) Sj → RowT V E sz (w.setCell ⟨b, j * sz + i, none⟩ u) oa cap (es.set j e') S) ∧
      (∀ (w' : World) (e' : α), V w' e' v Sj → w.heap.size ≤ w'.heap.size → (∀ k, k < w.heap.size → k ∉ Sj → w'.heap[k]? = w.heap[k]?) → (∀ k ∈ S, k < w.heap.size) → RowT V E sz w' oa cap (es.set j e') S) := by
  obtain ⟨xs, S', ho, rfl, hr⟩ := h
  obtain ⟨v, Sj, S1, S2, xa, xb, rfl, hxa, rfl, hv, hput⟩ := RowS.focus hlen hV hr hj
  have hjl := (List.getElem?_eq_some_iff.1 hj).1
  obtain ⟨b, c, e0, -⟩ := own_form ho (by omega)
  simp only [Value.slice.injEq] at e0
  obtain ⟨rfl, -, rfl⟩ := e0
  have hvl := hlen _ _ _ _ hv
  have hnd := List.nodup_append.1 hS
  have hbn : b ∉ S1 ++ Sj ++ S2 := fun hb => hnd.2.2 b (by simp [obk]) b hb rfl
  have hSj : ∀ k ∈ Sj, k ∉ S1 ++ S2 := by
    have h2 := hnd.2.1
    rw [List.nodup_append, List.nodup_append] at h2
    obtain ⟨⟨-, -, q1⟩, -, q2⟩ := h2
    intro k hk hk'
    rcases List.mem_append.1 hk' with h | h
    · exact q1 k h k hk rfl
    · exact q2 k (List.mem_append.2 (.inr hk)) k h rfl
  refine ⟨b, v, Sj, S1, S2, rfl, (owns_lt ho b (by simp [obk])).2, rfl, hv, fun i u hi => ?_, fun i => World.ownsRow.frozenAt ho i, fun i u e' hi hv' => ?_, fun w' e' hv' hle hk hlt => ?_⟩
  · have hil := (List.getElem?_eq_some_iff.1 hi).1
    refine own_cell ho ?_
    rw [List.append_assoc, List.getElem?_append_right (by omega), hxa, Nat.add_sub_cancel_left, List.getElem?_append_left hil]
    exact hi
  · have hst := World.ownsRow.stored ho (j * sz + i) u
    refine ⟨xa ++ v.set i u ++ xb, S1 ++ Sj ++ S2, ?_, rfl, ?_⟩
    · rw [List.length_set]
      have e1 : (xa ++ v ++ xb).set (j * sz + i) u = xa ++ v.set i u ++ xb := by
        rw [List.append_assoc, List.set_append_right _ _ (by omega), hxa, Nat.add_sub_cancel_left, List.set_append_left _ _ (by omega), ← List.append_assoc]
      rw [← e1]
      exact hst.1
    · have same : ∀ k ∈ S1 ++ Sj ++ S2, (w.setCell ⟨b, j * sz + i, none⟩ u).heap[k]? = w.heap[k]? := fun k hk => Below.heap_setCell w _ u k (by rintro rfl; exact hbn hk)
      exact hput _ e' _ (hV _ _ _ _ _ hv' fun k hk => same k (by simp [hk])) fun k hk => same k (by simp only [List.mem_append] at hk ⊢; rcases hk with h | h; exact .inl (.inl h); exact .inr h)
  · have same : ∀ k ∈ [b] ++ (S1 ++ S2), w'.heap[k]? = w.heap[k]? := fun k hkm => by
      have hin : k ∈ obk (some (⟨b, 0, none⟩ : Addr)) ++ (S1 ++ Sj ++ S2) := by
        simp only [obk, List.mem_append, List.mem_singleton] at hkm ⊢
        rcases hkm with h | h | h
        · exact .inl h
        · exact .inr (.inl (.inl h))
        · exact .inr (.inr h)
      refine hk k (hlt k hin) fun hkj => ?_
      simp only [List.mem_append, List.mem_singleton] at hkm
      rcases hkm with rfl | h
      · exact hbn (by simp [hkj])
      · exact hSj k hkj (by simpa using h)
    refine ⟨xa ++ v ++ xb, S1 ++ Sj ++ S2, ?_, rfl, ?_⟩
    · rw [List.length_set]
      exact owns_kept ho fun k hk => same k (by simp [obk] at hk; simp [hk])
    · exact hput w' e' v hv' fun k hk => same k (by simp at hk ⊢; exact .inr hk)
end
theorem exR_row {tE : Nat} {w : World} {oa : Option Addr} {cap : Nat} {es : List Ex} {S : List Nat} : ExR tE w oa cap es S ↔ RowT (ExS tE) tE 6 w oa cap es S := by
  simp only [ExR, RowT, exSs_row]
theorem smR_row {tE tS : Nat} {w : World} {oa : Option Addr} {cap : Nat} {es : List Sm} {S : List Nat} : SmR tE tS w oa cap es S ↔ RowT (SmS tE tS) tS 7 w oa cap es S := by
  simp only [SmR, RowT, smSs_row]
theorem thR_row {tE tS tD tT : Nat} {w : World} {oa : Option Addr} {cap : Nat} {es : List Th} {S : List Nat} : ThR tE tS tD tT w oa cap es S ↔ RowT (ThS tE tS tD) tT 4 w oa cap es S := by
  simp only [ThR, RowT, thSs_row]

section
variable {w0 w w' : World} {M : List Nat} {hs : List Res}
variable {P : Program} {n : Fr} {L : List Oper} {Q : Exit → Act → World → Prop} {kn : Kn} {N : Act → World → Prop}
variable {d ty : Nat} {pos : String} {aft : Array Edge} {g : Option (Nat × Bool)}
/-- a store into a tree that is held -/
theorem e_stT (st : St w0 M hs w) (i : Nat) {x y : Operand} {T b off : Nat} {v : Value} {S : List Nat} {φ ψ : World → Prop} (hw : gd L kn g = some true) (hx : evO kn x = some (.pointer (some ⟨b, off, none⟩)))
    (hy : evO kn y = some v) (h1 : v.oneCell' = true) (hsz : ∀ w, (Go.sizeOf T).run P w = .ok 1 w) (hi : nth hs i = some (.tree S φ)) (hb : b ∈ S) (hm : b ∈ M ∨ w0.heap.size ≤ b)
    (hc : ∃ u, w.cell? ⟨b, off, none⟩ = some u) (hf : w.frozen? ⟨b, off, none⟩ = false) (hψ : ψ (w.setCell ⟨b, off, none⟩ v)) (hψl : Loc S ψ)
    (next : ∀ w', St w0 M (setNth hs i (.tree S ψ)) w' → vN n N kn w') : vS P n L Q (⟨none, .store T x y, ty, pos, aft, g⟩) N kn w := by
  obtain ⟨u, hc⟩ := hc
  have hcs : v.cells = #[v] := by cases v <;> first | rfl | (simp [Value.oneCell'] at h1)
  have hc9 := Chg.setCell w ⟨b, off, none⟩ v
  have hlt : ∀ k ∈ S, k < w.heap.size := (st.res hi).2.1
  refine e_do hw rfl (w' := w.setCell ⟨b, off, none⟩ v) (fun a ha => ?_) (next _ (st.swap hi hc9 (fun k hk => by simp at hk; subst hk; exact hb) (fun k hk => by simp at hk; subst hk; exact hm) (fun k hk => .inl hk) ⟨hψ, fun k hk => Nat.lt_of_lt_of_le (hlt k hk) hc9.size, hψl⟩))
  simp only [execOp, ha.ev hx, ha.ev hy]
  have hst : (store ⟨b, off, none⟩ v).run P w = .ok () (w.setCell ⟨b, off, none⟩ v) := by
    cases v <;> first | (simp [Value.oneCell'] at h1; done) | simp [store, Sem.run, hc, hf]
  have key : (storeVar T ⟨b, off, none⟩ v).run P w = .ok () (w.setCell ⟨b, off, none⟩ v) := by
    simp only [storeVar, Sem.run_bind, hsz, Result.andThen_ok, hcs]
    simp [storeCells, addr_add0, hst]
  simp only [Instr.storeAt, Instr.sureAddr, Sem.run_bind, Sem.run_pure, Result.andThen_ok, key]
end
end Sx


/- The engine, twenty-third part: the rows of the language's trees, one of a row written over. -/
namespace Sx
open Go Go.RowKit
set_option linter.unusedVariables false
set_option linter.unusedSimpArgs false
def Ex.setNm (s : List UInt8) : Ex → Ex | .mk k op wd _ kids a => .mk k op wd s kids a
def Ex.setAt (a : Int) : Ex → Ex | .mk k op wd nm kids _ => .mk k op wd nm kids a
def Ex.setKids (kids : List Ex) : Ex → Ex | .mk k op wd nm _ a => .mk k op wd nm kids a
def Sm.setNm (s : List UInt8) : Sm → Sm | .mk k _ o e b l a => .mk k s o e b l a
def Sm.setOther (s : List UInt8) : Sm → Sm | .mk k n _ e b l a => .mk k n s e b l a
def Sm.setE (x : List Ex) : Sm → Sm | .mk k n o _ b l a => .mk k n o x b l a
def Sm.setBody (x : List Sm) : Sm → Sm | .mk k n o e _ l a => .mk k n o e x l a
def Sm.setEls (x : List Sm) : Sm → Sm | .mk k n o e b _ a => .mk k n o e b x a
def Sm.setAt (a : Int) : Sm → Sm | .mk k n o e b l _ => .mk k n o e b l a
def Th.setNm (s : List UInt8) (t : Th) : Th := { t with nm := s }
def Th.setAt (a : Int) (t : Th) : Th := { t with a := a }
def Th.setLocals (l : List Dc) (t : Th) : Th := { t with locals := l }
def Th.setBody (b : List Sm) (t : Th) : Th := { t with body := b }
section
variable {tE tS tD tT : Nat} {w w' : World}
/-- what a row's block is: it is there, not frozen, and of the tree -/
structure RowAt (w : World) (b : Nat) (S : List Nat) : Prop where
  mem : b ∈ S
  lt : b < w.heap.size
  fz : ∀ i, w.frozen? ⟨b, i, none⟩ = false
/-! ### expressions -/
theorem exR_focus {oa : Option Addr} {cap : Nat} {es : List Ex} {S : List Nat} {j : Nat} {e : Ex} (h : ExR tE w oa cap es S) (hS : S.Nodup) (hj : es[j]? = some e) :
    ∃ b o c Sj, oa = some ⟨b, 0, none⟩ ∧ RowAt w b S ∧ (∀ i u, ([.int .u8 e.k, .int .u8 e.op, .int .i64 e.wd, str e.nm, .slice o e.kids.length c, .int .i64 e.a] : List Value)[i]? = some u → w.cell? ⟨b, j * 6 + i, none⟩ = some u) ∧ ExR tE w o c e.kids Sj ∧ Sj.Nodup ∧ (∀ k ∈ Sj, k ∈ S) ∧
      (∀ s, ExR tE (w.setCell ⟨b, j * 6 + 3, none⟩ (str s)) oa cap (es.set j (e.setNm s)) S) ∧ (∀ a, ExR tE (w.setCell ⟨b, j * 6 + 5, none⟩ (.int .i64 a)) oa cap (es.set j (e.setAt a)) S) ∧
      (∀ (w' : World) kids, kids.length = e.kids.length → ExR tE w' o c kids Sj → Chg Sj w w' → ExR tE w' oa cap (es.set j (e.setKids kids)) S) := by
  have hlt : ∀ k ∈ S, k < w.heap.size := h.lt
  obtain ⟨b, v, Sj, S1, S2, ho, hbl, hSe, hv, hcell, hfz, hset, hsub⟩ := RowT.focus (V := ExS tE) (by omega) (fun w x v S h => h.len) (fun w w' x v S h hk => h.kept hk) (exR_row.1 h) hS hj
  obtain ⟨o, c, rfl, hk⟩ := ExS_iff.1 hv
  subst hSe
  have hSj : Sj.Nodup := by
    have := (List.nodup_append.1 hS).2.1
    exact (List.nodup_append.1 (List.nodup_append.1 this).1).2.1
  refine ⟨b, o, c, Sj, ho, ⟨by simp, hbl, hfz⟩, hcell, hk, hSj, fun k hk => by simp [hk], fun s => ?_, fun a => ?_, fun w' kids hl hk' hc => ?_⟩
  · refine exR_row.2 (hset 3 _ _ (by omega) (ExS_iff.2 ?_))
    cases e; exact ⟨o, c, rfl, hk⟩
  · refine exR_row.2 (hset 5 _ _ (by omega) (ExS_iff.2 ?_))
    cases e; exact ⟨o, c, rfl, hk⟩
  · refine exR_row.2 (hsub w' _ (ExS_iff.2 ?_) hc.size (fun k hk hn => hc.block k hk hn) hlt)
    cases e with
    | mk k op wd nm ks a =>
      simp only [Ex.kids] at hl
      refine ⟨o, c, ?_, hk'⟩
      simp only [Ex.setKids, Ex.k, Ex.op, Ex.wd, Ex.nm, Ex.kids, Ex.a, hl]
/-! ### statements -/
theorem smR_focus {oa : Option Addr} {cap : Nat} {es : List Sm} {S : List Nat} {j : Nat} {e : Sm} (h : SmR tE tS w oa cap es S) (hS : S.Nodup) (hj : es[j]? = some e) :
    ∃ b oe ce ob cb ol cl Se Sb Sl, oa = some ⟨b, 0, none⟩ ∧ RowAt w b S ∧ (∀ i u, ([.int .u8 e.k, str e.nm, str e.other, .slice oe e.e.length ce, .slice ob e.body.length cb, .slice ol e.els.length cl, .int .i64 e.a] : List Value)[i]? = some u → w.cell? ⟨b, j * 7 + i, none⟩ = some u) ∧
      ExR tE w oe ce e.e Se ∧ SmR tE tS w ob cb e.body Sb ∧ SmR tE tS w ol cl e.els Sl ∧ Se.Nodup ∧ Sb.Nodup ∧ Sl.Nodup ∧ (∀ k ∈ Se, k ∈ S) ∧ (∀ k ∈ Sb, k ∈ S) ∧ (∀ k ∈ Sl, k ∈ S) ∧
      (∀ s, SmR tE tS (w.setCell ⟨b, j * 7 + 1, none⟩ (str s)) oa cap (es.set j (e.setNm s)) S) ∧ (∀ s, SmR tE tS (w.setCell ⟨b, j * 7 + 2, none⟩ (str s)) oa cap (es.set j (e.setOther s)) S) ∧ (∀ a, SmR tE tS (w.setCell ⟨b, j * 7 + 6, none⟩ (.int .i64 a)) oa cap (es.set j (e.setAt a)) S) ∧
      (∀ (w' : World) x, x.length = e.e.length → ExR tE w' oe ce x Se → Chg Se w w' → SmR tE tS w' oa cap (es.set j (e.setE x)) S) ∧
      (∀ (w' : World) x, x.length = e.body.length → SmR tE tS w' ob cb x Sb → Chg Sb w w' → SmR tE tS w' oa cap (es.set j (e.setBody x)) S) ∧
      (∀ (w' : World) x, x.length = e.els.length → SmR tE tS w' ol cl x Sl → Chg Sl w w' → SmR tE tS w' oa cap (es.set j (e.setEls x)) S) := by
  have hlt : ∀ k ∈ S, k < w.heap.size := h.lt
  obtain ⟨b, v, Sj, S1, S2, ho, hbl, hSe, hv, hcell, hfz, hset, hsub⟩ := RowT.focus (V := SmS tE tS) (by omega) (fun w x v S h => h.len) (fun w w' x v S h hk => h.kept hk) (smR_row.1 h) hS hj
  obtain ⟨oe, ce, ob, cb, ol, cl, Se, Sb, Sl, rfl, he, hb, hl, rfl⟩ := SmS_iff.1 hv
  subst hSe
  have hn1 := (List.nodup_append.1 (List.nodup_append.1 (List.nodup_append.1 hS).2.1).1).2.1
  obtain ⟨ne, hn2, d1⟩ := List.nodup_append.1 hn1
  obtain ⟨nb, nl, d2⟩ := List.nodup_append.1 hn2
  have len2 : ∀ {A B : List Nat}, (∀ a ∈ A, ∀ b ∈ B, a ≠ b) → ∀ k ∈ B, k ∉ A := fun h k hk hk' => h k hk' k hk rfl
  refine ⟨b, oe, ce, ob, cb, ol, cl, Se, Sb, Sl, ho, ⟨by simp, hbl, hfz⟩, hcell, he, hb, hl, ne, nb, nl, fun k hk => by simp [hk], fun k hk => by simp [hk], fun k hk => by simp [hk], fun s => ?_, fun s => ?_, fun a => ?_, fun w' x hx hx' hc => ?_, fun w' x hx hx' hc => ?_, fun w' x hx hx' hc => ?_⟩
  · refine smR_row.2 (hset 1 _ _ (by omega) (SmS_iff.2 ?_))
    cases e; exact ⟨oe, ce, ob, cb, ol, cl, Se, Sb, Sl, rfl, he, hb, hl, rfl⟩
  · refine smR_row.2 (hset 2 _ _ (by omega) (SmS_iff.2 ?_))
    cases e; exact ⟨oe, ce, ob, cb, ol, cl, Se, Sb, Sl, rfl, he, hb, hl, rfl⟩
  · refine smR_row.2 (hset 6 _ _ (by omega) (SmS_iff.2 ?_))
    cases e; exact ⟨oe, ce, ob, cb, ol, cl, Se, Sb, Sl, rfl, he, hb, hl, rfl⟩
  · have hb' := hb.kept (w' := w') fun k hk => hc.block k (hb.lt k hk) (fun hk' => d1 k hk' k (by simp [hk]) rfl)
    have hl' := hl.kept (w' := w') fun k hk => hc.block k (hl.lt k hk) (fun hk' => d1 k hk' k (by simp [hk]) rfl)
    refine smR_row.2 (hsub w' _ (SmS_iff.2 ?_) hc.size (fun k hk hn => hc.block k hk (fun h => hn (by simp [h]))) hlt)
    cases e with
    | mk k nm other xe bd el a =>
      simp only [Sm.e] at hx
      refine ⟨oe, ce, ob, cb, ol, cl, Se, Sb, Sl, ?_, hx', hb', hl', rfl⟩
      simp only [Sm.setE, Sm.k, Sm.nm, Sm.other, Sm.e, Sm.body, Sm.els, Sm.a, hx]
  · have he' := he.kept (w' := w') fun k hk => hc.block k (he.lt k hk) (fun hk' => d1 k hk k (by simp [hk']) rfl)
    have hl' := hl.kept (w' := w') fun k hk => hc.block k (hl.lt k hk) (fun hk' => d2 k hk' k hk rfl)
    refine smR_row.2 (hsub w' _ (SmS_iff.2 ?_) hc.size (fun k hk hn => hc.block k hk (fun h => hn (by simp [h]))) hlt)
    cases e with
    | mk k nm other xe bd el a =>
      simp only [Sm.body] at hx
      refine ⟨oe, ce, ob, cb, ol, cl, Se, Sb, Sl, ?_, he', hx', hl', rfl⟩
      simp only [Sm.setBody, Sm.k, Sm.nm, Sm.other, Sm.e, Sm.body, Sm.els, Sm.a, hx]
  · have he' := he.kept (w' := w') fun k hk => hc.block k (he.lt k hk) (fun hk' => d1 k hk k (by simp [hk']) rfl)
    have hb' := hb.kept (w' := w') fun k hk => hc.block k (hb.lt k hk) (fun hk' => d2 k hk k hk' rfl)
    refine smR_row.2 (hsub w' _ (SmS_iff.2 ?_) hc.size (fun k hk hn => hc.block k hk (fun h => hn (by simp [h]))) hlt)
    cases e with
    | mk k nm other xe bd el a =>
      simp only [Sm.els] at hx
      refine ⟨oe, ce, ob, cb, ol, cl, Se, Sb, Sl, ?_, he', hb', hx', rfl⟩
      simp only [Sm.setEls, Sm.k, Sm.nm, Sm.other, Sm.e, Sm.body, Sm.els, Sm.a, hx]
/-! ### threads -/
theorem thR_focus {oa : Option Addr} {cap : Nat} {es : List Th} {S : List Nat} {j : Nat} {e : Th} (h : ThR tE tS tD tT w oa cap es S) (hS : S.Nodup) (hj : es[j]? = some e) :
    ∃ b ol cl ob cb Sl Sb, oa = some ⟨b, 0, none⟩ ∧ RowAt w b S ∧ (∀ i u, ([str e.nm, .slice ol e.locals.length cl, .slice ob e.body.length cb, .int .i64 e.a] : List Value)[i]? = some u → w.cell? ⟨b, j * 4 + i, none⟩ = some u) ∧
      DcR tD w ol cl e.locals Sl ∧ SmR tE tS w ob cb e.body Sb ∧ Sl.Nodup ∧ Sb.Nodup ∧ (∀ k ∈ Sl, k ∈ S) ∧ (∀ k ∈ Sb, k ∈ S) ∧
      (∀ s, ThR tE tS tD tT (w.setCell ⟨b, j * 4 + 0, none⟩ (str s)) oa cap (es.set j (e.setNm s)) S) ∧ (∀ a, ThR tE tS tD tT (w.setCell ⟨b, j * 4 + 3, none⟩ (.int .i64 a)) oa cap (es.set j (e.setAt a)) S) ∧
      (∀ (w' : World) x, x.length = e.locals.length → DcR tD w' ol cl x Sl → Chg Sl w w' → ThR tE tS tD tT w' oa cap (es.set j (e.setLocals x)) S) ∧
      (∀ (w' : World) x, x.length = e.body.length → SmR tE tS w' ob cb x Sb → Chg Sb w w' → ThR tE tS tD tT w' oa cap (es.set j (e.setBody x)) S) := by
  have hlt : ∀ k ∈ S, k < w.heap.size := h.lt
  obtain ⟨b, v, Sj, S1, S2, ho, hbl, hSe, hv, hcell, hfz, hset, hsub⟩ := RowT.focus (V := ThS tE tS tD) (by omega) (fun w x v S h => h.len) (fun w w' x v S h hk => h.kept hk) (thR_row.1 h) hS hj
  obtain ⟨ol, cl, ob, cb, Sl, Sb, rfl, hl, hb, rfl⟩ := hv
  subst hSe
  have hn1 := (List.nodup_append.1 (List.nodup_append.1 (List.nodup_append.1 hS).2.1).1).2.1
  obtain ⟨nl, nb, d1⟩ := List.nodup_append.1 hn1
  refine ⟨b, ol, cl, ob, cb, Sl, Sb, ho, ⟨by simp, hbl, hfz⟩, hcell, hl, hb, nl, nb, fun k hk => by simp [hk], fun k hk => by simp [hk], fun s => ?_, fun a => ?_, fun w' x hx hx' hc => ?_, fun w' x hx hx' hc => ?_⟩
  · exact thR_row.2 (hset 0 _ _ (by omega) ⟨ol, cl, ob, cb, Sl, Sb, rfl, hl, hb, rfl⟩)
  · exact thR_row.2 (hset 3 _ _ (by omega) ⟨ol, cl, ob, cb, Sl, Sb, rfl, hl, hb, rfl⟩)
  · have hb' := hb.kept (w' := w') fun k hk => hc.block k (hb.lt k hk) (fun hk' => d1 k hk' k hk rfl)
    refine thR_row.2 (hsub w' (e.setLocals x) ⟨ol, cl, ob, cb, Sl, Sb, ?_, hx', hb', rfl⟩ hc.size (fun k hk hn => hc.block k hk (fun h => hn (by simp [h]))) hlt)
    simp only [Th.setLocals, hx]
  · have hl' := hl.kept (w' := w') fun k hk => hc.block k (hl.lt k hk) (fun hk' => d1 k hk k hk' rfl)
    refine thR_row.2 (hsub w' (e.setBody x) ⟨ol, cl, ob, cb, Sl, Sb, ?_, hl', hx', rfl⟩ hc.size (fun k hk hn => hc.block k hk (fun h => hn (by simp [h]))) hlt)
    simp only [Th.setBody, hx]
/-! ### declarations -/
theorem dcs_set {ds : List Dc} {j i : Nat} {d : Dc} {u : Value} {d' : Dc} (hj : ds[j]? = some d) (hi : i < 3) (he : (dcL d).set i u = dcL d') : (ds.flatMap dcL).set (j * 3 + i) u = (ds.set j d').flatMap dcL := by
  induction ds generalizing j with
  | nil => simp at hj
  | cons x r ih =>
    rw [List.flatMap_cons]
    have h3 : (dcL x).length = 3 := rfl
    cases j with
    | zero =>
      simp only [List.getElem?_cons_zero, Option.some.injEq] at hj
      subst hj
      rw [show 0 * 3 + i = i by omega, List.set_append_left _ _ (by omega), he]; rfl
    | succ j =>
      rw [show (j + 1) * 3 + i = (dcL x).length + (j * 3 + i) by omega, List.set_append_right _ _ (by omega), Nat.add_sub_cancel_left, ih (by simpa using hj)]; rfl
theorem dcR_focus {oa : Option Addr} {cap : Nat} {es : List Dc} {S : List Nat} {j : Nat} {e : Dc} (h : DcR tD w oa cap es S) (hj : es[j]? = some e) :
    ∃ b, oa = some ⟨b, 0, none⟩ ∧ RowAt w b S ∧ (∀ i u, (dcL e)[i]? = some u → w.cell? ⟨b, j * 3 + i, none⟩ = some u) ∧
      (∀ s, DcR tD (w.setCell ⟨b, j * 3 + 0, none⟩ (str s)) oa cap (es.set j { e with nm := s }) S) ∧ (∀ a, DcR tD (w.setCell ⟨b, j * 3 + 2, none⟩ (.int .i64 a)) oa cap (es.set j { e with a := a }) S) := by
  obtain ⟨ho, rfl⟩ := h
  have hjl := (List.getElem?_eq_some_iff.1 hj).1
  obtain ⟨b, c, e0, -⟩ := own_form ho (by omega)
  simp only [Value.slice.injEq] at e0
  obtain ⟨rfl, -, rfl⟩ := e0
  have put : ∀ (i : Nat) (u : Value) (e' : Dc), i < 3 → (dcL e).set i u = dcL e' → DcR tD (w.setCell ⟨b, j * 3 + i, none⟩ u) (some ⟨b, 0, none⟩) cap (es.set j e') (obk (some ⟨b, 0, none⟩)) := fun i u e' hi he => by
    have hst := (World.ownsRow.stored ho (j * 3 + i) u).1
    rw [dcs_set hj hi he] at hst
    refine ⟨?_, rfl⟩
    rw [List.length_set]; exact hst
  refine ⟨b, rfl, ⟨by simp [obk], (owns_lt ho b (by simp [obk])).2, fun i => World.ownsRow.frozenAt ho i⟩, fun i u hi => ?_, fun s => put 0 _ _ (by omega) rfl, fun a => put 2 _ _ (by omega) rfl⟩
  have hr := rowC_own (S := fun _ => True) ho (fun _ _ => trivial)
  rcases hr with h0 | ⟨b', off, e1, -, -, hc⟩
  · omega
  · simp only [Option.some.injEq, Addr.mk.injEq, and_true] at e1
    obtain ⟨rfl, rfl⟩ := e1
    have := (hc j hjl).2 i u (by dsimp only; rw [dcs_chunk hj]; exact hi)
    rwa [Nat.zero_add] at this
end
/-- a tree that may be written over, and what is read beside it -/
theorem St.two {w : World} {S E : List Nat} {φ ψ : World → Prop} (h1 : φ w) (h2 : ψ w) (l1 : ∀ b ∈ S, b < w.heap.size) (l2 : ∀ b ∈ E, b < w.heap.size) (k1 : Sx.Loc S φ) (k2 : Sx.Loc E ψ) (hd : ∀ b ∈ S, b ∉ E) : St w S [.tree S φ, .tree E ψ] w :=
  ⟨Chg.refl _ _, List.pairwise_cons.2 ⟨fun x hx k hk hk' => by
    simp only [List.mem_singleton] at hx
    subst hx
    exact hd k hk hk', List.pairwise_singleton _ _⟩, by
    intro r hr
    simp only [List.mem_cons, List.not_mem_nil, or_false] at hr
    rcases hr with rfl | rfl
    · exact ⟨h1, l1, k1⟩
    · exact ⟨h2, l2, k2⟩⟩
/-- a callee has turned a tree within the tree at 0 -/
theorem St.within {w0 w w' : World} {M S Sj : List Nat} {hs : List Res} {φ ψ : World → Prop} (st : St w0 M (.tree S φ :: hs) w) (c : Chg Sj w w') (hj : ∀ k ∈ Sj, k ∈ S) (hM : ∀ k ∈ S, k ∈ M ∨ w0.heap.size ≤ k) (hψ : ψ w') (hl : Sx.Loc S ψ) : St w0 M (.tree S ψ :: hs) w' := by
  have h := st.res (i := 0) rfl
  exact st.swap (i := 0) (r' := .tree S ψ) rfl c hj (fun k hk => hM k (hj k hk)) (fun k hk => .inl hk) ⟨hψ, fun k hk => Nat.lt_of_lt_of_le (h.2.1 k hk) c.size, hl⟩
/-- a callee has turned a tree within the tree at 'i' -/
theorem St.withinI {w0 w w' : World} {M S Sj : List Nat} {hs : List Res} {φ : World → Prop} (st : St w0 M hs w) {i : Nat} (ψ : World → Prop) (hi : nth hs i = some (.tree S φ)) (c : Chg Sj w w') (hj : ∀ k ∈ Sj, k ∈ S) (hM : ∀ k ∈ S, k ∈ M ∨ w0.heap.size ≤ k) (hψ : ψ w') (hl : Sx.Loc S ψ) : St w0 M (setNth hs i (.tree S ψ)) w' := by
  have h := st.res hi
  exact st.swap (r' := .tree S ψ) hi c hj (fun k hk => hM k (hj k hk)) (fun k hk => .inl hk) ⟨hψ, fun k hk => Nat.lt_of_lt_of_le (h.2.1 k hk) c.size, hl⟩
/-- a tree falls in two -/
theorem St.split {w0 w : World} {M S T : List Nat} {hs : List Res} {χ φ ψ : World → Prop} (st : St w0 M (.tree (S ++ T) χ :: hs) w) (hn : (S ++ T).Nodup) (h1 : φ w) (h2 : ψ w) (k1 : Sx.Loc S φ) (k2 : Sx.Loc T ψ) : St w0 M (.tree S φ :: .tree T ψ :: hs) w := by
  have h := st.res (i := 0) rfl
  have hnd := List.pairwise_cons.1 st.nodup
  refine ⟨st.chg, List.pairwise_cons.2 ⟨fun x hx => ?_, List.pairwise_cons.2 ⟨fun x hx k hk => hnd.1 x hx k (List.mem_append.2 (.inr hk)), hnd.2⟩⟩, fun x hx => ?_⟩
  · rcases List.mem_cons.1 hx with rfl | hx
    · exact fun k hk hk' => (List.nodup_append.1 hn).2.2 k hk k hk' rfl
    · exact fun k hk => hnd.1 x hx k (List.mem_append.2 (.inl hk))
  · rcases List.mem_cons.1 hx with rfl | hx
    · exact ⟨h1, fun k hk => h.2.1 k (List.mem_append.2 (.inl hk)), k1⟩
    · rcases List.mem_cons.1 hx with rfl | hx
      · exact ⟨h2, fun k hk => h.2.1 k (List.mem_append.2 (.inr hk)), k2⟩
      · exact st.here x (.tail _ hx)
end Sx


namespace Go.Proofs.YtnmhlpnapgojjaaDoor
open Go.RowKit Sx LexS _root_.Go.Proofs.Tryd
set_option linter.unusedVariables false
set_option linter.unusedSimpArgs false
/-- what the closures turn names and places by, and where these lie -/
structure Env where
 g : List UInt8 → List UInt8
 h : Int → Int
 fn : Nat
 fa : Nat
 cn : List Value
 ca : List Value
 bn : Nat
 ba : Nat
 be : Nat
 bs : Nat
 E : List Nat
 ψ : World → Prop
namespace Env
def pn (e : Env) : Value := .pointer (some ⟨e.bn, 0, none⟩)
def pa (e : Env) : Value := .pointer (some ⟨e.ba, 0, none⟩)
def pe (e : Env) : Value := .pointer (some ⟨e.be, 0, none⟩)
def ps (e : Env) : Value := .pointer (some ⟨e.bs, 0, none⟩)
/-- the boxes of the two functions -/
def in2 (e : Env) (w : World) : Prop := w.heap[e.bn]? = some (.cells [.func (.func e.fn) #[] e.cn.toArray].toArray 72 (0, 0)) ∧ w.heap[e.ba]? = some (.cells [.func (.func e.fa) #[] e.ca.toArray].toArray 73 (0, 0)) ∧ e.ψ w
def in3 (e : Env) (w : World) : Prop := e.in2 w ∧ w.heap[e.be]? = some (.cells [.func (.func 67) #[] [e.pn, e.pa, e.pe].toArray].toArray 77 (0, 0))
def in4 (e : Env) (w : World) : Prop := e.in3 w ∧ w.heap[e.bs]? = some (.cells [.func (.func 68) #[] [e.pn, e.pa, e.pe, e.ps].toArray].toArray 78 (0, 0))
structure Ok (e : Env) : Prop where
 nm : ∀ s w, e.ψ w → Ret Tryd.prog e.fn ([] ++ [str s] ++ e.cn) w fun v w' => v = str (e.g s) ∧ w' = w
 at_ : ∀ a w, e.ψ w → Ret Tryd.prog e.fa ([] ++ [.int .i64 a] ++ e.ca) w fun v w' => v = .int .i64 (e.h a) ∧ w' = w
 loc : ∀ w w', e.ψ w → (∀ b ∈ e.E, w'.heap[b]? = w.heap[b]?) → e.ψ w'
 mn : e.bn ∈ e.E
 ma : e.ba ∈ e.E
 me : e.be ∈ e.E
 ms : e.bs ∈ e.E
 calln : ∀ (xs : Array Value) w, (callFunc e.fn xs).run Tryd.prog w = .ok (.enter e.fn xs) w
 calla : ∀ (xs : Array Value) w, (callFunc e.fa xs).run Tryd.prog w = .ok (.enter e.fa xs) w
variable {e : Env} {w w' : World}
theorem in2.kept (ok : e.Ok) (h : e.in2 w) (hk : ∀ b ∈ e.E, w'.heap[b]? = w.heap[b]?) : e.in2 w' := ⟨by rw [hk _ ok.mn]; exact h.1, by rw [hk _ ok.ma]; exact h.2.1, ok.loc _ _ h.2.2 hk⟩
theorem in3.kept (ok : e.Ok) (h : e.in3 w) (hk : ∀ b ∈ e.E, w'.heap[b]? = w.heap[b]?) : e.in3 w' := ⟨in2.kept ok h.1 hk, by rw [hk _ ok.me]; exact h.2⟩
theorem in4.kept (ok : e.Ok) (h : e.in4 w) (hk : ∀ b ∈ e.E, w'.heap[b]? = w.heap[b]?) : e.in4 w' := ⟨in3.kept ok h.1 hk, by rw [hk _ ok.ms]; exact h.2⟩
end Env
section
variable {e : Env} {cap : Nat}
theorem loc_dc {oa : Option Addr} {ds : List Dc} {S : List Nat} : Sx.Loc S fun w => DcRQ w oa cap ds S := loc_of fun a b h hk => h.kept hk
theorem loc_ex {oa : Option Addr} {ds : List Ex} {S : List Nat} : Sx.Loc S fun w => ExRQ w oa cap ds S := loc_of fun a b h hk => h.kept hk
theorem loc_sm {oa : Option Addr} {ds : List Sm} {S : List Nat} : Sx.Loc S fun w => SmRQ w oa cap ds S := loc_of fun a b h hk => h.kept hk
theorem loc_th {oa : Option Addr} {ds : List Th} {S : List Nat} : Sx.Loc S fun w => ThRQ w oa cap ds S := loc_of fun a b h hk => h.kept hk
end
section

set_option maxHeartbeats 1000000 in
theorem dl_any (e : Env) (ok : e.Ok) (ds : List Dc) (hn : ds.length ≤ 1099511627776) (oa : Option Addr) (cap : Nat) (S : List Nat) (w : World) (hQ : DcRQ w oa cap ds S) (hS : S.Nodup) (hE : e.in2 w) (hEl : ∀ b ∈ e.E, b < w.heap.size) (hd : ∀ b ∈ S, b ∉ e.E) :
    Ret Tryd.prog 66 ([] ++ [.slice oa ds.length cap] ++ [e.pn, e.pa]) w fun v w' => v = .tuple #[] ∧ DcRQ w' oa cap (ds.map (trD e.g e.h)) S ∧ Chg S w w' := by
 refine ret_of [_, _, _] func66 rfl ntmps66 rfl ?_
 have st := St.init w S
 clear st
 obtain ⟨w0, rfl⟩ : ∃ w0, w0 = w := ⟨_, rfl⟩
 have st := St.two (w := w0) (φ := fun w => DcRQ w oa cap ds S) (ψ := e.in2) hQ hE hQ.lt hEl loc_dc (loc_of fun a b h hk => Env.in2.kept ok h hk) hd
 have hSM : ∀ k ∈ S, k ∈ S ∨ w0.heap.size ≤ k := fun k hk => .inl hk
 refine vc_seq (vc_region ?_)
 refine vc_y rfl rfl (y_mv rfl) ?_
 refine vc_y rfl rfl (y_lensl rfl underlying22) ?_
 refine vc_y rfl rfl (y_mv rfl) ?_
 refine vc_end (vq_then (vc_keep [(0, _), (1, _), (2, _), (6, _), (7, _)] ⟨rfl, rfl, rfl, rfl, rfl, trivial⟩ (vc_block ?_)))
 refine vc_loop (w0 := w0) (M := S) (fun (j : Nat) => [(0, .slice oa ds.length cap), (1, e.pn), (2, e.pa), (6, .int .i64 (ds.length : Int)), (7, .int .i64 (j : Int))]) (fun j => [.tree S (fun w => DcRQ w oa cap (mixL (trD e.g e.h) ds j) S), .tree e.E e.in2]) (fun j _ => j ≤ ds.length) (fun j => ds.length - j) 0 ⟨rfl, rfl, rfl, rfl, rfl, trivial⟩ (by simpa only [mixL_zero] using st) (by omega) ?_
 clear st
 rintro j w hj st
 refine vc_seq (vc_region ?_)
 refine vc_y rfl rfl (y_lss rfl rfl) ?_
 refine vc_end (vq_then (vc_keep [(0, _), (1, _), (2, _), (6, _), (7, _), (8, _)] ⟨rfl, rfl, rfl, rfl, rfl, rfl, trivial⟩ (vc_seq ?_)))
 refine vc_ifs rfl ?_ ?_
 ·
  intro hc8
  try simp only [dn] at hc8
  obtain ⟨x, hx⟩ : ∃ x, ds[j]? = some x := ⟨_, List.getElem?_eq_getElem (by omega)⟩
  have hmx := mixL_get (f := trD e.g e.h) hx
  have stK := st
  obtain ⟨b, rfl, hrow, hcells, -, -⟩ := dcR_focus (st.res (i := 0) rfl).1 hmx
  have st := stK
  clear stK
  have hcell0 : ∀ w, DcRQ w (some ⟨b, 0, none⟩) cap (mixL (trD e.g e.h) ds j) S → w.cell? ⟨b, j * 3 + 0, none⟩ = some (str x.nm) ∧ w.cell? ⟨b, j * 3 + 2, none⟩ = some (.int .i64 x.a) := fun w h => by
   obtain ⟨b', hb', -, hc, -, -⟩ := dcR_focus h hmx
   simp only [Option.some.injEq, Addr.mk.injEq, and_true] at hb'
   subst hb'
   exact ⟨hc 0 _ rfl, hc 2 _ rfl⟩
  refine vc_code_skip (vq_then (vc_keep [(0, _), (1, _), (2, _), (6, _), (7, _)] ⟨rfl, rfl, rfl, rfl, rfl, trivial⟩ (vc_seq (vc_block (vc_seq (vc_region ?_))))))
  refine vc_y rfl rfl (y_mv rfl) ?_
  refine vc_y rfl rfl (y_as rfl) ?_
  refine vc_end (vq_then (vc_keep [(0, _), (1, _), (2, _), (4, _), (6, _), (7, _)] ⟨rfl, rfl, rfl, rfl, rfl, rfl, trivial⟩ ?_))
  refine vk_draw Tryd.mixed [(0, true), (1, true), (2, true), (3, true), (5, true), (6, true), (7, true), (8, true), (12, true), (13, true), (14, true), (15, true), (4, true), (9, true), (11, true), (16, true), (10, false), (17, false), (18, true), (19, true), (20, false), (21, true), (22, true), (23, false)] 20 (fun w => St _ _ [.tree S (fun w => DcRQ w (some ⟨b, 0, none⟩) cap (mixL (trD e.g e.h) ds j) S), .tree e.E e.in2] w) (by exact st) (by kernel_rfl) (by repeat (first | exact okQ_body | refine okQ_then ?_ | refine okQ_block ?_)) rfl (by kernel_rfl) rfl ?_
  intro w cd; replace st := st.call0 cd; clear cd
  have hS : St _ _ [.tree S (fun w => DcRQ w (some ⟨b, 0, none⟩) cap (mixL (trD e.g e.h) ds j) S), .tree e.E e.in2] w := (by exact st)
  iterate 6 refine vk_takeU rfl rfl rfl rfl (fun _ => hS) (fun w => y_mv rfl) ?_
  refine vk_takeU rfl rfl rfl rfl (fun _ => hS) (fun w => (by exact y_ia0 (k := j) rfl rfl underlying22 sizeOf67 rfl (by omega))) ?_
  refine vk_takeU rfl rfl rfl rfl (fun _ => hS) (fun w => y_fa0 rfl underlying67 rfl rfl sizeOf9 rfl) ?_
  iterate 2 refine vk_takeU rfl rfl rfl rfl (fun _ => hS) (fun w => y_mv rfl) ?_
  refine vk_takeU rfl rfl rfl rfl (fun _ => hS) (fun w => (by exact y_ia0 (k := j) rfl rfl underlying22 sizeOf67 rfl (by omega))) ?_
  refine vk_takeU rfl rfl rfl rfl (fun _ => hS) (fun w => (by exact y_fa (k := 2) rfl underlying67 rfl rfl sizeOf3 rfl)) ?_
  refine vk_take rfl rfl rfl rfl hS (fun w st => (by exact y_ldc rfl isAgg72 (cell_nth (st.res (i := 1) rfl).1.1 rfl))) ?_
  refine vk_take rfl rfl rfl rfl hS (fun w st => (by exact y_ldc rfl isAgg9 (hcell0 _ (st.res (i := 0) rfl).1).1)) ?_
  refine vk_take rfl rfl rfl rfl hS (fun w st => (by exact y_ldc rfl isAgg73 (cell_nth (st.res (i := 1) rfl).1.2.1 rfl))) ?_
  refine vk_take rfl rfl rfl rfl hS (fun w st => (by exact y_ldc rfl isAgg3 (hcell0 _ (st.res (i := 0) rfl).1).2)) ?_
  refine vk_do rfl rfl (e_callv [_] rfl rfl rfl ok.calln rfl (ok.nm x.nm _ (st.res (i := 1) rfl).1.2.2) ?_)
  rintro _ _ ⟨rfl, rfl⟩
  refine vk_next (by exact st) ?_; intro hS
  refine vk_do rfl rfl (e_callv [_] rfl rfl rfl ok.calla rfl (ok.at_ x.a _ (st.res (i := 1) rfl).1.2.2) ?_)
  rintro _ _ ⟨rfl, rfl⟩
  refine vk_next (by exact st) ?_; intro hS
  refine vk_takeU rfl rfl rfl rfl (fun _ => hS) (fun w => (by exact y_ia0 (k := j) rfl rfl underlying22 sizeOf67 rfl (by omega))) ?_
  refine vk_takeU rfl rfl rfl rfl (fun _ => hS) (fun w => y_fa0 rfl underlying67 rfl rfl sizeOf9 rfl) ?_
  obtain ⟨b1, hb1, r1, c1, s1, -⟩ := dcR_focus (st.res (i := 0) rfl).1 hmx
  simp only [Option.some.injEq, Addr.mk.injEq, and_true] at hb1
  subst hb1
  refine vk_do rfl rfl (e_stT st 0 (ψ := fun w => DcRQ w (some ⟨b, 0, none⟩) cap ((mixL (trD e.g e.h) ds j).set j { x with nm := e.g x.nm }) S) rfl rfl rfl rfl sizeOf9 rfl r1.mem (hSM _ r1.mem) ⟨_, c1 0 _ rfl⟩ (r1.fz _) (s1 _) loc_dc ?_)
  intro w st; dsimp only [setNth] at st
  refine vk_late ?_
  refine vk_takeU rfl rfl rfl rfl (fun h => by cases h) (fun w => (by exact y_ia0 (k := j) rfl rfl underlying22 sizeOf67 rfl (by omega))) ?_
  refine vk_takeU rfl rfl rfl rfl (fun h => by cases h) (fun w => (by exact y_fa (k := 2) rfl underlying67 rfl rfl sizeOf3 rfl)) ?_
  have hmx2 : ((mixL (trD e.g e.h) ds j).set j { x with nm := e.g x.nm })[j]? = some { x with nm := e.g x.nm } := by rw [List.getElem?_set_self (by rw [mixL_len]; omega)]
  obtain ⟨b2, hb2, r2, c2, -, s2⟩ := dcR_focus (st.res (i := 0) rfl).1 hmx2
  simp only [Option.some.injEq, Addr.mk.injEq, and_true] at hb2
  subst hb2
  have hstep : ((mixL (trD e.g e.h) ds j).set j { x with nm := e.g x.nm }).set j { ({ x with nm := e.g x.nm } : Dc) with a := e.h x.a } = mixL (trD e.g e.h) ds (j + 1) := by rw [List.set_set]; exact mixL_step (f := trD e.g e.h) hx
  refine vk_do rfl rfl (e_stT st 0 (ψ := fun w => DcRQ w (some ⟨b, 0, none⟩) cap (mixL (trD e.g e.h) ds (j + 1)) S) rfl rfl rfl rfl sizeOf3 rfl r2.mem (hSM _ r2.mem) ⟨_, c2 2 _ rfl⟩ (r2.fz _) (hstep ▸ s2 (e.h x.a)) loc_dc ?_)
  intro w st; dsimp only [setNth] at st
  refine vk_late ?_
  refine vk_end ?_
  refine vq_block (vq_then (vc_keep [(0, _), (1, _), (2, _), (6, _), (7, _)] ⟨rfl, rfl, rfl, rfl, rfl, trivial⟩ (vc_region ?_)))
  refine vc_y rfl rfl (y_add rfl rfl (by omega : _ = ((j + 1 : Nat) : Int)) (by omega) (by omega)) ?_
  refine vc_y rfl rfl (y_mv rfl) ?_
  refine vc_end ?_
  refine vq_again (j + 1)  ⟨rfl, rfl, rfl, rfl, rfl, trivial⟩ st ?_ ?_
  ·
   omega
  ·
   omega
 ·
  intro hc8
  try simp only [dn] at hc8
  refine vc_exit (vq_then_exit (vq_then_exit (vq_block_exit ?_)))
  refine vq_ret0 (.inr rfl) results66 ?_
  refine ⟨_, rfl, ?_⟩
  obtain rfl : j = ds.length := by omega
  rw [mixL_all] at st
  exact ⟨rfl, (st.res (i := 0) rfl).1, st.chg⟩

end
end Go.Proofs.YtnmhlpnapgojjaaDoor

