/- A part of the proof: contracts of functions and plain laws; each theorem says its own conditions. -/
import Derived.Test.YtnmhlpnapgojjaaGreatDoorPrettyBackK1
import Derived.Test.YtnmhlpnapgojjaaGreatDoorPrettyBackK8
import Derived.Test.YtnmhlpnapgojjaaGreatDoorPrettyBackK2
set_option linter.unusedVariables false
set_option linter.unusedSimpArgs false
namespace Go.Proofs.YtnmhlpnapgojjaaGreatDoor
open Go.RowKit Sx LexS _root_.Go.Proofs.Tryz
theorem Sig.pos {w : World} (h : Sig w) : 0 < w.heap.size := World.block_lt_of_cell? w _ (h 0 (by omega)).1
theorem thT_le {p : Pg} {j : Nat} {t : Th} (h : p.threads[j]? = some t) : (txtSs t.body 1).length ≤ (pgT p).length := by
 have h1 := pgT_le p (j + 1)
 rw [thsT_succ h] at h1
 unfold thT at h1
 simp at h1
 omega
set_option maxHeartbeats 2000000 in
theorem wprintP_any (p : Pg) (os ol ot : Option Addr) (cs cl ct : Nat) (w : World) (hS : DcRow w (· < w.heap.size) os p.shared) (hL : DcRow w (· < w.heap.size) ol p.locks) (hT : ThRow w (· < w.heap.size) ot p.threads) (hok : OkP p) (hsg : Sig w) (hlen : pgOk p = true → (pgT p).length ≤ 1099511627776) :
    Ret Tryz.prog 11 [.agg (pgL p os ol ot cs cl ct).toArray] w fun v w' => v = .tuple #[str (pgRes p).1, .int .i64 ((pgRes p).2 : Int)] ∧ Chg [] w w' := by
 refine ret_of [_] func11 rfl ntmps11 rfl ?_
 have st := St.init w []
 obtain ⟨w0, rfl⟩ : ∃ w0, w0 = w := ⟨_, rfl⟩
 have hn3 := hok.2.2.1
 have h0 := hsg.pos
 refine vc_seq (vc_region ?_)
 refine vc_e (e_bx (l := [_, _, _]) st rfl rfl rfl rfl ?_)
 intro b1 w hb1 st
 iterate 2 refine ya ?_
 refine vc_end (vq_then (vk1 1 (vc_seq (vc_seq (vc_region ?_)))))
 refine yla st 0 [_, _, _] isAgg26 sizeOf26 ?_
 refine vc_e (e_call [_] rfl rfl call38 rfl (right_any p _ _ _ _ _ _ _ (RowC.kept hS (Same.of_nil st.chg)) (RowC.kept hL (Same.of_nil st.chg)) (hT.kept (Same.of_nil st.chg)) hok (hsg.kept st.chg)) ?_)
 rintro _ w ⟨rfl, cw⟩
 replace st := st.call0 cw
 refine vy (y_not rfl) ?_
 refine vc_end (vq_then (vk2 1 9 ?_))
 refine vc_ifs rfl ?_ ?_
 ·intro hc9
  try simp only [dn] at hc9
  refine vc_seq (vc_region ?_)
  iterate 2 refine ya ?_
  refine vc_end (vq_then (vk2 2 3 (vc_ret (vq_then_ret ?_))))
  refine vq_ret2 st (.inl rfl) results11 (.tmp rfl) (.tmp rfl) ?_
  refine ⟨_, rfl, ?_⟩
  refine ⟨?_, st.chg⟩
  rw [pgRes_no (by assumption)]; rfl
 ·intro hc9
  try simp only [dn] at hc9
  refine vc_code_skip (vq_then (vk1 1 (vc_seq (vc_region ?_))))
  refine vy (y_bld (.agg #[_, _]) [] rfl (fun w => by simp [Instr.build, go_sem] <;> repeat' constructor)) ?_
  refine vc_e (e_bx (l := [_, _]) st rfl rfl rfl rfl ?_)
  intro b11 w hb11 st
  refine ya ?_
  refine vc_end (vq_then (vk2 1 4 (vc_seq (vc_region ?_))))
  obtain ⟨bw, rfl⟩ : ∃ bw, bw = b11 := ⟨_, rfl⟩
  have hpo : pgOk p = true := by assumption
  replace hlen := hlen hpo
  obtain ⟨q1, q2, q3⟩ := pgOk_inv hpo
  replace st := st.wrNew (E := 5) (n0 := w0.heap.size) hb11 (Nat.le_refl _)
  refine ym ?_
  refine vy (y_fa0 rfl underlying26 rfl rfl sizeOf23 rfl) ?_
  refine yl st 1 isAgg23 ?_
  refine vc_e (e_call [_, _, _, _] rfl rfl call39 rfl (wdecls_any p.shared true q1 hok.1 [115, 104, 97, 114, 101, 100] (by simp) 0 (by omega) _ _ bw _ _ _ (RowC.kept hS (Same.of_nil st.chg)) (st.wrGet (i := 0) rfl) st.chg.size) ?_)
  rintro _ w ⟨rfl, hp⟩
  obtain ⟨v9, st⟩ := st.wr (i := 0) rfl hp
  dsimp only [setNth] at st
  refine vc_end (vq_then (vk2 1 4 (vc_seq (vc_region ?_))))
  refine ym ?_
  refine yfz 1 underlying26 sizeOf23 ?_
  refine yl st 1 isAgg23 ?_
  refine vc_e (e_call [_, _, _, _] rfl rfl call39 rfl (wdecls_any p.locks false q2 hok.2.1 [108, 111, 99, 107] (by simp) 0 (by omega) _ _ bw _ _ _ (RowC.kept hL (Same.of_nil st.chg)) (st.wrGet (i := 0) rfl) st.chg.size) ?_)
  rintro _ w ⟨rfl, hp⟩
  obtain ⟨v9, st⟩ := st.wr (i := 0) rfl hp
  dsimp only [setNth] at st
  refine vc_end (vq_then (vk2 1 4 (vc_seq (vc_seq (vc_region ?_)))))
  refine yfz 2 underlying26 sizeOf24 ?_
  refine yl st 1 isAgg24 ?_
  refine vy (y_lensl rfl underlying24) ?_
  refine ym ?_
  refine vc_end (vq_then (vk4 4 21 22 23 (vc_block ?_)))
  refine vc_loop (w0 := w0) (M := []) (fun (x : Nat × Value) => [(4, .pointer (some ⟨bw, 0, none⟩)), (21, .slice ot p.threads.length ct), (22, .int .i64 (p.threads.length : Int)), (23, .int .i64 (x.1 : Int))]) (fun x => [wrR [] w0.heap.size 5 w0.heap.size 80 bw x.2 (pgH p ++ thsT (p.threads.take x.1))]) (fun x _ => x.1 ≤ p.threads.length) (fun x => p.threads.length - x.1) (0, v9) ⟨rfl, rfl, rfl, rfl, trivial⟩ (by simpa [thsT, pgH] using (st.dr : St w0 [] [wrR [] w0.heap.size 5 w0.heap.size 80 bw v9 _] w)) (by simp) ?_
  clear st
  rintro ⟨j, v1⟩ w hj st
  dsimp only at *
  refine vc_seq (vc_region ?_)
  refine vy (y_lss rfl rfl) ?_
  refine vc_end (vq_then (vk5 4 21 22 23 24 (vc_seq ?_)))
  refine vc_ifs rfl ?_ ?_
  ·intro hc24
   try simp only [dn] at hc24
   have stK := st
   obtain ⟨t, htj⟩ : ∃ t, p.threads[j]? = some t := ⟨_, List.getElem?_eq_getElem (by omega)⟩
   obtain ⟨gb, go, rfl, hgS, hgl, hg⟩ := ThRow.at hT (by omega)
   obtain ⟨tl, tb, cll, cbb, htl, htb, hc⟩ := hg j t htj
   have hkt := hok.2.2.2 j t htj
   obtain ⟨t1, t2, t3⟩ := q3 j t htj
   have hnl := isName_le t1
   have htle := thT_le htj
   have st := stK
   clear stK
   refine vc_code_skip (vq_then (vk4 4 21 22 23 (vc_seq (vc_block (vc_seq (vc_region ?_))))))
   refine vy (y_ia (k := j) rfl rfl underlying24 sizeOf69 rfl (by omega)) ?_
   refine vy (y_ldca (thL t tl tb cll cbb) rfl isAgg69 sizeOf69 rfl (fun i v hi => st.chg.cell (hc i v hi) (by simp))) ?_
   refine vc_e (e_al (l := [_, _, _, _]) st rfl rfl zeroValue69 rfl ?_)
   intro b6 w hb6 st
   refine vc_e (e_sts (vs := [_, _, _, _]) st 0 rfl rfl rfl rfl rfl sizeOf69 rfl rfl (by (right; assumption)) ?_)
   intro w st; dsimp only [setNth, wr] at st
   refine vc_end (vq_then (vk5 4 6 21 22 23 (vc_seq (vc_region ?_))))
   refine ym ?_
   refine vy (y_fa0 rfl underlying69 rfl rfl sizeOf9 rfl) ?_
   refine yl st 0 isAgg9 ?_
   refine vc_e (e_bsn (l := [[116, 104, 114, 101, 97, 100, 32], t.nm, [32, 123]].map str) (E := 9) st [(0, _), (1, _), (2, _)] rfl rfl rfl (fun w => by simp [Instr.buildSlice, run_underlying underlying50, sizeOf9, zeroValue9, Instr.fill, newRow, newObj, Sem.run, go_sem]) ?_)
   intro b30 w hb30 st
   refine vc_e (e_call [_, _, _] rfl rfl call40 rfl (line_any repeat_any bw _ _ 0 (by omega) [[116, 104, 114, 101, 97, 100, 32], t.nm, [32, 123]] (by simp) (by simp; try omega) b30 _ _ (st.wrGet (i := 2) rfl) st.chg.size (fun j x hx => cell_nth (st.res (i := 0) rfl) (strs_nth hx)) (fun hk => apart_nth st.nodup (i := 0) (j := 2) (by decide) rfl rfl _ (.head _) hk)) ?_)
   rintro _ w ⟨rfl, hp⟩
   obtain ⟨v9, st⟩ := st.wr (i := 2) rfl hp
   dsimp only [setNth] at st
   refine vc_end (vq_then (vk5 4 6 21 22 23 (vc_seq (vc_region ?_))))
   refine ym ?_
   refine yfz 1 underlying69 sizeOf23 ?_
   refine yl st 1 isAgg23 ?_
   refine vc_e (e_call [_, _, _, _] rfl rfl call39 rfl (wdecls_any t.locals false t2 hkt.1 [108, 111, 99, 97, 108] (by simp) 1 (by omega) _ _ bw _ _ _ (RowC.kept htl (Same.of_nil st.chg)) (st.wrGet (i := 2) rfl) st.chg.size) ?_)
   rintro _ w ⟨rfl, hp⟩
   obtain ⟨v9, st⟩ := st.wr (i := 2) rfl hp
   dsimp only [setNth] at st
   refine vc_end (vq_then (vk5 4 6 21 22 23 (vc_seq (vc_region ?_))))
   refine ym ?_
   refine yfz 2 underlying69 sizeOf65 ?_
   refine yl st 1 isAgg65 ?_
   refine vc_e (e_call [_, _, _] rfl rfl call41 rfl (wblock_any _ t.body rfl 1 (by omega) t3 hkt.2.1 (by omega) bw _ _ _ _ _ (htb.kept (Same.of_nil st.chg)) (st.wrGet (i := 2) rfl) st.chg.size h0 (hsg.kept st.chg)) ?_)
   rintro _ w ⟨rfl, hp⟩
   obtain ⟨v9, st⟩ := st.wr (i := 2) rfl hp
   dsimp only [setNth] at st
   refine vc_end (vq_then (vk4 4 21 22 23 (vc_region ?_)))
   refine ym ?_
   refine vc_e (e_bsn (l := [[125]].map str) (E := 9) st [(0, _)] rfl rfl rfl (fun w => by simp [Instr.buildSlice, run_underlying underlying50, sizeOf9, zeroValue9, Instr.fill, newRow, newObj, Sem.run, go_sem]) ?_)
   intro b41 w hb41 st
   refine vc_e (e_call [_, _, _] rfl rfl call40 rfl (line_any repeat_any bw _ _ 0 (by omega) [[125]] (by simp) (by simp; try omega) b41 _ _ (st.wrGet (i := 3) rfl) st.chg.size (fun j x hx => cell_nth (st.res (i := 0) rfl) (strs_nth hx)) (fun hk => apart_nth st.nodup (i := 0) (j := 3) (by decide) rfl rfl _ (.head _) hk)) ?_)
   rintro _ w ⟨rfl, hp⟩
   obtain ⟨v9, st⟩ := st.wr (i := 3) rfl hp
   dsimp only [setNth] at st
   refine vc_end (vq_block (vq_then (vk4 4 21 22 23 (vc_region ?_))))
   refine vy (y_add rfl rfl (by omega : _ = ((j + 1 : Nat) : Int)) (by omega) (by omega)) ?_
   refine ym ?_
   refine vc_end ?_
   refine vq_again (j + 1, v9)  ⟨rfl, rfl, rfl, rfl, trivial⟩ (by rw [thsT_succ htj]; unfold thT; simpa [List.append_assoc, mar] using st.pick [3] rfl (by decide)) ?_ ?_
   ·dsimp only; omega
   ·dsimp only; omega
  ·intro hc24
   try simp only [dn] at hc24
   obtain rfl : j = p.threads.length := by omega
   rw [List.take_length, ← pgT_eq] at st
   obtain ⟨l2, many2, hb2, ho2, hws2, -, -⟩ := st.wrGet (i := 0) rfl
   obtain ⟨oq, cq, hvq⟩ := slice_form ho2
   subst hvq
   refine vc_exit (vq_then_exit (vq_then_exit (vq_block_exit (vq_then (vk1 4 (vc_seq (vc_seq (vc_region ?_))))))))
   refine ym ?_
   refine ynk ?_
   refine yfz 1 underlying80 sizeOf4 ?_
   refine vy (y_ldc rfl isAgg4 (ptr_cell hb2)) ?_
   refine vc_end (vq_then (vk2 4 47 ?_))
   refine vc_ifs rfl ?_ ?_
   ·intro hc47
    try simp only [dn] at hc47
    refine vc_seq (vc_region ?_)
    iterate 2 refine ya ?_
    refine vc_end (vq_then (vk2 2 3 (vc_ret (vq_then_ret ?_))))
    refine vq_ret2 st (.inl rfl) results11 (.tmp rfl) (.tmp rfl) ?_
    refine ⟨_, rfl, ?_⟩
    refine ⟨?_, st.chg⟩
    first
     | (have hm : many2 = true := by assumption
        subst hm
        rw [pgRes_long hpo (WS.long hws2)]; rfl)
   ·intro hc47
    try simp only [dn] at hc47
    refine vc_code_skip (vq_then (vk1 4 (vc_seq (vc_region ?_))))
    refine ym ?_
    refine ynk ?_
    refine vy (y_fa0 rfl underlying80 rfl rfl sizeOf78 rfl) ?_
    refine vy (y_ldc rfl isAgg78 (cell_nth (l := [_, _]) hb2 rfl)) ?_
    refine vy (y_b2s rfl (p := l2) (own_rdp ho2) rfl underlying78 underlying5 underlying9) ?_
    iterate 2 refine ya ?_
    refine vc_end (vq_then (vk2 2 3 (vc_ret ?_)))
    refine vq_ret2 st (.inl rfl) results11 (.tmp rfl) (.tmp rfl) ?_
    refine ⟨_, rfl, ?_⟩
    refine ⟨?_, st.chg⟩
    first
     | (have hm : many2 = false := by assumption
        subst hm
        obtain ⟨h1, h2⟩ := WS.yes hws2
        subst h1
        rw [pgRes_ok hpo h2]; rfl)

theorem wcheckP_any (p : Pg) (os ol ot : Option Addr) (cs cl ct : Nat) (w : World) (hS : DcRow w (· < w.heap.size) os p.shared) (hL : DcRow w (· < w.heap.size) ol p.locks) (hT : ThRow w (· < w.heap.size) ot p.threads) (hok : OkP p) (hsg : Sig w) (hlen : pgOk p = true → (pgT p).length ≤ 1099511627776) :
    Ret Tryz.prog 34 [.agg (pgL p os ol ot cs cl ct).toArray] w fun v w' => v = .int .i64 ((pgRes p).2 : Int) ∧ Chg [] w w' := by
 refine ret_of [_] func34 rfl ntmps34 rfl ?_
 have st := St.init w []
 obtain ⟨w0, rfl⟩ : ∃ w0, w0 = w := ⟨_, rfl⟩
 refine vc_seq (vc_region ?_)
 refine vc_e (e_bx (l := [_, _, _]) st rfl rfl rfl rfl ?_)
 intro b1 w hb1 st
 refine ya ?_
 refine vc_end (vq_then (vk1 1 (vc_seq (vc_region ?_))))
 refine yla st 0 [_, _, _] isAgg26 sizeOf26 ?_
 refine vc_e (e_call [_] rfl rfl call11 rfl (wprintP_any p _ _ _ _ _ _ _ (RowC.mono (RowC.kept hS (Same.of_nil st.chg)) (fun b hb => Nat.lt_of_lt_of_le hb st.chg.size)) (RowC.mono (RowC.kept hL (Same.of_nil st.chg)) (fun b hb => Nat.lt_of_lt_of_le hb st.chg.size)) ((hT.kept (Same.of_nil st.chg)).mono (fun b hb => Nat.lt_of_lt_of_le hb st.chg.size)) hok (hsg.kept st.chg) hlen) ?_)
 rintro _ w ⟨rfl, cw⟩
 replace st := st.call0 cw
 refine ym ?_
 iterate 2 refine vy (y_ext rfl rfl) ?_
 iterate 2 refine ya ?_
 refine vc_end (vq_then (vk1 4 (vc_seq (vc_region ?_))))
 refine ym ?_
 refine ya ?_
 refine vc_end (vq_then (vk1 2 (vc_ret ?_)))
 refine vq_ret1 st (.inl rfl) results34 (.tmp rfl) ?_
 refine ⟨_, rfl, ?_⟩
 exact ⟨rfl, st.chg⟩

end Go.Proofs.YtnmhlpnapgojjaaGreatDoor


/- When trees are the same: no program in sight. -/
namespace LexS
open Sx
def zipA {α β : Type} (f : α → β → Bool) : List α → List β → Bool
  | [], [] => true
  | x :: r, y :: s => f x y && zipA f r s
  | _, _ => false
theorem zipA_len {α β : Type} {f : α → β → Bool} : ∀ {a : List α} {b : List β}, a.length ≠ b.length → zipA f a b = false
  | [], [], h => absurd rfl h
  | x :: r, y :: s, h => by simp only [zipA, zipA_len (f := f) (a := r) (b := s) (by simpa using h), Bool.and_false]
  | [], _ :: _, _ => rfl
  | _ :: _, [], _ => rfl
theorem zipA_no {α β : Type} {f : α → β → Bool} : ∀ {a : List α} {b : List β} {j : Nat} {x : α} {y : β}, a[j]? = some x → b[j]? = some y → f x y = false → zipA f a b = false
  | [], _, j, x, y, h, _, _ => by simp at h
  | _ :: _, [], j, x, y, _, h, _ => by simp at h
  | u :: r, v :: s, 0, x, y, h1, h2, h => by simp at h1 h2; subst h1 h2; simp [zipA, h]
  | u :: r, v :: s, j + 1, x, y, h1, h2, h => by simp only [zipA, zipA_no (f := f) (a := r) (b := s) (by simpa using h1) (by simpa using h2) h, Bool.and_false]
theorem zipA_yes {α β : Type} {f : α → β → Bool} : ∀ {a : List α} {b : List β}, a.length = b.length → (∀ (j : Nat) x y, j < a.length → a[j]? = some x → b[j]? = some y → f x y = true) → zipA f a b = true
  | [], [], _, _ => rfl
  | u :: r, v :: s, hl, h => by
    simp only [zipA, Bool.and_eq_true]
    exact ⟨h 0 u v (by simp) rfl rfl, zipA_yes (by simpa using hl) fun j x y hj h1 h2 => h (j + 1) x y (by simp; omega) (by simpa using h1) (by simpa using h2)⟩
  | [], _ :: _, hl, _ => by simp at hl
  | _ :: _, [], hl, _ => by simp at hl
mutual
def sameE : Ex → Ex → Bool
  | .mk k op wd nm kids a, y => decide (k = y.k ∧ op = y.op ∧ wd = y.wd ∧ nm = y.nm) && sameEs kids y.kids
termination_by structural e => e
def sameEs : List Ex → List Ex → Bool
  | [], l => l.isEmpty
  | x :: r, l => match l with | [] => false | y :: s => sameE x y && sameEs r s
termination_by structural l => l
end
theorem sameEs_eq : ∀ (a b : List Ex), sameEs a b = zipA sameE a b
  | [], [] => rfl
  | [], _ :: _ => rfl
  | _ :: _, [] => by simp [sameEs, zipA]
  | x :: r, y :: s => by simp only [sameEs, zipA, sameEs_eq r s]
theorem sameE_eq (e y : Ex) : sameE e y = (decide (e.k = y.k ∧ e.op = y.op ∧ e.wd = y.wd ∧ e.nm = y.nm) && zipA sameE e.kids y.kids) := by
  cases e; rw [sameE, sameEs_eq]; rfl
mutual
def sameS : Sm → Sm → Bool
  | .mk k nm other e body els a, y => decide (k = y.k ∧ nm = y.nm ∧ other = y.other) && zipA sameE e y.e && sameSs body y.body && sameSs els y.els
termination_by structural e => e
def sameSs : List Sm → List Sm → Bool
  | [], l => l.isEmpty
  | x :: r, l => match l with | [] => false | y :: s => sameS x y && sameSs r s
termination_by structural l => l
end
theorem sameSs_eq : ∀ (a b : List Sm), sameSs a b = zipA sameS a b
  | [], [] => rfl
  | [], _ :: _ => rfl
  | _ :: _, [] => by simp [sameSs, zipA]
  | x :: r, y :: s => by simp only [sameSs, zipA, sameSs_eq r s]
theorem sameS_eq (s y : Sm) : sameS s y = (decide (s.k = y.k ∧ s.nm = y.nm ∧ s.other = y.other) && zipA sameE s.e y.e && zipA sameS s.body y.body && zipA sameS s.els y.els) := by
  cases s; rw [sameS, sameSs_eq, sameSs_eq]; rfl
def sameD (d y : Dc) : Bool := decide (d.nm = y.nm ∧ d.wd = y.wd)
def sameT (t y : Th) : Bool := decide (t.nm = y.nm) && zipA sameD t.locals y.locals && zipA sameS t.body y.body
def sameP (p q : Pg) : Bool := zipA sameD p.shared q.shared && zipA sameD p.locks q.locks && zipA sameT p.threads q.threads
theorem memE_lt {e x : Ex} (h : x ∈ e.kids) : SizeOf.sizeOf x < SizeOf.sizeOf e := by
  cases e with
  | mk k op wd nm kids a =>
    have := List.sizeOf_lt_of_mem h
    simp only [Ex.kids] at this
    simp only [Ex.mk.sizeOf_spec]; omega
theorem memS_lt {s x : Sm} (h : x ∈ s.body ∨ x ∈ s.els) : SizeOf.sizeOf x < SizeOf.sizeOf s := by
  cases s with
  | mk k nm other e body els a =>
    simp only [Sm.body, Sm.els] at h
    simp only [Sm.mk.sizeOf_spec]
    rcases h with h | h <;> (have := List.sizeOf_lt_of_mem h; omega)
end LexS


namespace Go.Proofs.YtnmhlpnapgojjaaGreatDoor
open Go.RowKit Sx LexS _root_.Go.Proofs.Tryz
section
variable {n : Fr} {kn : Kn} {w : World} {d ty : Nat} {pos : String} {aft : Array Edge} {g : Option (Nat × Bool)}
end
end Go.Proofs.YtnmhlpnapgojjaaGreatDoor


namespace Go.Proofs.YtnmhlpnapgojjaaGreatDoor
open Go.RowKit Sx LexS _root_.Go.Proofs.Tryz
section
variable {S : Nat → Prop}

theorem rdeclsS_any (a b : List Dc) (oa ob : Option Addr) (ca cb : Nat) (w : World) (hA : DcRow w S oa a) (hB : DcRow w S ob b) (hn : a.length ≤ 1099511627776) :
    Ret Tryz.prog 44 [.slice oa a.length ca, .slice ob b.length cb] w fun v w' => v = .bool (zipA sameD a b) ∧ Chg [] w w' := by
 refine ret_of [_, _] func44 rfl ntmps44 rfl ?_
 have st := St.init w []
 obtain ⟨w0, rfl⟩ : ∃ w0, w0 = w := ⟨_, rfl⟩
 refine vc_seq (vc_region ?_)
 refine ya ?_
 refine vc_end (vq_then (vk2 0 1 (vc_seq (vc_seq (vc_region ?_)))))
 refine ym ?_
 refine vy (y_lensl rfl underlying23) ?_
 refine ym ?_
 refine vy (y_lensl rfl underlying23) ?_
 refine vy (y_nei rfl rfl) ?_
 refine vc_end (vq_then (vk3 0 1 10 ?_))
 refine vc_ifs rfl ?_ ?_
 ·intro hc10
  try simp only [dn] at hc10
  refine vc_seq (vc_region ?_)
  refine ya ?_
  refine vc_end (vq_then (vk1 4 (vc_ret (vq_then_ret ?_))))
  refine vq_ret1 st (.inl rfl) results44 (.tmp rfl) ?_
  refine ⟨_, rfl, ?_⟩
  refine ⟨?_, st.chg⟩
  rw [zipA_len (by omega)]
 ·intro hc10
  try simp only [dn] at hc10
  have hlen : a.length = b.length := by omega
  refine vc_code_skip (vq_then (vk2 0 1 (vc_seq (vc_seq (vc_region ?_)))))
  refine ym ?_
  refine vy (y_lensl rfl underlying23) ?_
  refine ym ?_
  refine vc_end (vq_then (vk4 0 1 12 13 (vc_block ?_)))
  refine vc_loop (w0 := w0) (M := []) (fun (j : Nat) => [(0, .slice oa a.length ca), (1, .slice ob b.length cb), (12, .int .i64 (a.length : Int)), (13, .int .i64 (j : Int))]) (fun _ => []) (fun j _ => j ≤ a.length ∧ ∀ (i : Nat) x y, i < j → a[i]? = some x → b[i]? = some y → sameD x y = true) (fun j => a.length - j) 0 ⟨rfl, rfl, rfl, rfl, trivial⟩ (st.dr) ⟨by omega, fun i x y h => by omega⟩ ?_
  clear st
  rintro j w ⟨hj, hall⟩ st
  refine vc_seq (vc_region ?_)
  refine vy (y_lss rfl rfl) ?_
  refine vc_end (vq_then (vk5 0 1 12 13 14 (vc_seq ?_)))
  refine vc_ifs rfl ?_ ?_
  ·intro hc14
   try simp only [dn] at hc14
   obtain ⟨x, hx⟩ : ∃ x, a[j]? = some x := ⟨_, List.getElem?_eq_getElem (by omega)⟩
   obtain ⟨y, hy⟩ : ∃ y, b[j]? = some y := ⟨_, List.getElem?_eq_getElem (by omega)⟩
   obtain ⟨gb, go, rfl, hgS, hgl, hg⟩ := DcRow.at hA (by omega)
   obtain ⟨fb, fo, rfl, hfS, hfl, hf⟩ := DcRow.at hB (by omega)
   have hc := hg j x hx
   have hd := hf j y hy
   refine vc_code_skip (vq_then (vk4 0 1 12 13 (vc_seq (vc_block (vc_seq (vc_region ?_))))))
   refine ym ?_
   refine ya ?_
   refine vc_end (vq_then (vk5 0 1 5 12 13 (vc_seq ?_)))
   refine vc_draw Tryz.mixed [(0, true), (1, true), (2, true), (3, true), (4, true), (5, true), (6, true), (7, true), (8, true), (9, true), (10, true), (11, true), (12, true), (13, true), (14, true), (15, true), (16, true), (17, true), (18, true), (19, true), (20, true), (21, true), (22, true), (23, true)] (fun w => St _ _ _ w) st (by kernel_rfl) (by repeat (first | exact okQ_body | refine okQ_then ?_ | refine okQ_block ?_)) rfl (by kernel_rfl) ?_
   intro w cd; replace st := st.call0 cd; clear cd
   have hS := st
   iterate 2 refine pm hS ?_
   refine vp_take rfl rfl rfl hS (fun w st => y_ia (k := j) rfl rfl underlying23 sizeOf63 rfl (by omega)) ?_
   refine pf0 hS underlying63 sizeOf9 ?_
   refine vp_take rfl rfl rfl hS (fun w st => y_ldc rfl isAgg9 (st.chg.cell (hc 0 _ rfl) (by simp))) ?_
   iterate 2 refine pm hS ?_
   refine vp_take rfl rfl rfl hS (fun w st => y_ia (k := j) rfl rfl underlying23 sizeOf63 rfl (by omega)) ?_
   refine pf0 hS underlying63 sizeOf9 ?_
   refine vp_take rfl rfl rfl hS (fun w st => y_ldc rfl isAgg9 (st.chg.cell (hd 0 _ rfl) (by simp))) ?_
   refine vp_take rfl rfl rfl hS (fun w st => y_nes rfl rfl) ?_
   refine vp_part rfl rfl rfl hS rfl ?_ ?_
   ·intro hg27
    try simp only [dn] at hg27
    iterate 11 refine vp_skip rfl rfl rfl hS ?_
    refine vp_take rfl rfl rfl hS (fun w st => y_pickt rfl rfl) ?_
    refine vp_end (vq_then (vk5 0 1 12 13 39 ?_))
    refine vc_ift rfl ?_
    refine vc_seq (vc_region ?_)
    refine ya ?_
    refine vc_end (vq_then (vk1 4 (vc_ret (vq_block_ret (vq_then_ret (vq_then_ret (vq_block_ret (vq_then_ret ?_))))))))
    refine vq_ret1 st (.inl rfl) results44 (.tmp rfl) ?_
    refine ⟨_, rfl, ?_⟩
    refine ⟨?_, st.chg⟩
    rw [zipA_no hx hy (by unfold sameD; simp_all)]
   ·intro hg27
    try simp only [dn] at hg27
    iterate 2 refine pm hS ?_
    refine vp_take rfl rfl rfl hS (fun w st => y_ia (k := j) rfl rfl underlying23 sizeOf63 rfl (by omega)) ?_
    refine vp_take rfl rfl rfl hS (fun w st => y_fa (k := 1) rfl underlying63 rfl rfl sizeOf2 rfl) ?_
    refine vp_take rfl rfl rfl hS (fun w st => y_ldc rfl isAgg2 (st.chg.cell (hc 1 _ rfl) (by simp))) ?_
    iterate 2 refine pm hS ?_
    refine vp_take rfl rfl rfl hS (fun w st => y_ia (k := j) rfl rfl underlying23 sizeOf63 rfl (by omega)) ?_
    refine vp_take rfl rfl rfl hS (fun w st => y_fa (k := 1) rfl underlying63 rfl rfl sizeOf2 rfl) ?_
    refine vp_take rfl rfl rfl hS (fun w st => y_ldc rfl isAgg2 (st.chg.cell (hd 1 _ rfl) (by simp))) ?_
    refine vp_take rfl rfl rfl hS (fun w st => y_nei rfl rfl) ?_
    refine vp_take rfl rfl rfl hS (fun w st => y_pickf rfl rfl) ?_
    refine vp_end (vq_then (vk5 0 1 12 13 39 ?_))
    refine vc_ifs rfl ?_ ?_
    ·intro hc39
     try simp only [dn] at hc39
     refine vc_seq (vc_region ?_)
     refine ya ?_
     refine vc_end (vq_then (vk1 4 (vc_ret (vq_block_ret (vq_then_ret (vq_then_ret (vq_block_ret (vq_then_ret ?_))))))))
     refine vq_ret1 st (.inl rfl) results44 (.tmp rfl) ?_
     refine ⟨_, rfl, ?_⟩
     refine ⟨?_, st.chg⟩
     rw [zipA_no hx hy (by unfold sameD; simp_all)]
    ·intro hc39
     try simp only [dn] at hc39
     refine vc_code_skip (vq_block (vq_then (vk4 0 1 12 13 (vc_region ?_))))
     refine vy (y_add rfl rfl (by omega : _ = ((j + 1 : Nat) : Int)) (by omega) (by omega)) ?_
     refine ym ?_
     refine vc_end ?_
     refine vq_again (j + 1)  ⟨rfl, rfl, rfl, rfl, trivial⟩ (st.dr) ?_ ?_
     ·exact ⟨by omega, fun i x' y' hi h1 h2 => by
        rcases (by omega : i < j ∨ i = j) with h | rfl
        · exact hall i x' y' h h1 h2
        · rw [hx] at h1; rw [hy] at h2; cases h1; cases h2; (unfold sameD; simp_all)⟩
     ·omega
  ·intro hc14
   try simp only [dn] at hc14
   refine vc_exit (vq_then_exit (vq_then_exit (vq_block_exit (vq_then (vc_keep [] trivial (vc_seq (vc_region ?_)))))))
   refine ya ?_
   refine vc_end (vq_then (vk1 4 (vc_ret ?_)))
   refine vq_ret1 st (.inl rfl) results44 (.tmp rfl) ?_
   refine ⟨_, rfl, ?_⟩
   refine ⟨?_, st.chg⟩
   rw [zipA_yes hlen fun i x y hi h1 h2 => hall i x y (by omega) h1 h2]

theorem rsameE_any (e y : Ex) (o o' : Option Addr) (c c' : Nat) (w : World) (hr : ExRow w S o e.kids) (hr' : ExRow w S o' y.kids)
    (hrec : ∀ w, ExRow w S o e.kids → ExRow w S o' y.kids → Ret Tryz.prog 51 [.slice o e.kids.length c, .slice o' y.kids.length c'] w fun v w' => v = .bool (zipA sameE e.kids y.kids) ∧ Chg [] w w') :
  Ret Tryz.prog 17 [.agg (exL e o c).toArray, .agg (exL y o' c').toArray] w fun v w' => v = .bool (sameE e y) ∧ Chg [] w w' := by
 refine ret_of [_, _] func17 rfl ntmps17 rfl ?_
 have st := St.init w []
 obtain ⟨w0, rfl⟩ : ∃ w0, w0 = w := ⟨_, rfl⟩
 refine vc_seq (vc_region ?_)
 refine vc_e (e_bx (l := [_, _, _, _, _, _]) st rfl rfl rfl rfl ?_)
 intro b2 w hb2 st
 refine vc_e (e_bx (l := [_, _, _, _, _, _]) st rfl rfl rfl rfl ?_)
 intro b3 w hb3 st
 refine ya ?_
 refine vc_end (vq_then (vk2 2 3 (vc_seq (vc_seq (vc_region ?_)))))
 refine vy (y_fa0 rfl underlying42 rfl rfl sizeOf38 rfl) ?_
 refine yl st 1 isAgg38 ?_
 refine vy (y_fa0 rfl underlying42 rfl rfl sizeOf38 rfl) ?_
 refine yl st 0 isAgg38 ?_
 refine vy (y_nei rfl rfl) ?_
 refine vmb ?_ ?_
 ·intro hg10
  try simp only [dn] at hg10
  iterate 5 refine vsk ?_
  refine ypt ?_
  refine ym ?_
  iterate 5 refine vsk ?_
  refine ypt ?_
  refine ym ?_
  iterate 5 refine vsk ?_
  refine ypt ?_
  refine vc_end (vq_then (vk3 2 3 30 ?_))
  refine vc_ift rfl ?_
  refine vc_seq (vc_region ?_)
  refine ya ?_
  refine vc_end (vq_then (vk1 4 (vc_ret (vq_then_ret ?_))))
  refine vq_ret1 st (.inl rfl) results17 (.tmp rfl) ?_
  refine ⟨_, rfl, ?_⟩
  refine ⟨?_, st.chg⟩
  rw [sameE_eq]
  first
   | (rw [show decide (e.k = y.k ∧ e.op = y.op ∧ e.wd = y.wd ∧ e.nm = y.nm) = false from by
       simp only [decide_eq_false_iff_not]
       rintro ⟨q1, q2, q3, q4⟩
       simp_all]
      rfl)
 ·intro hg10
  try simp only [dn] at hg10
  refine yfz 1 underlying42 sizeOf39 ?_
  refine yl st 1 isAgg39 ?_
  refine yfz 1 underlying42 sizeOf39 ?_
  refine yl st 0 isAgg39 ?_
  refine vy (y_nei rfl rfl) ?_
  refine ypf ?_
  refine vmb ?_ ?_
  ·intro hg17
   try simp only [dn] at hg17
   iterate 5 refine vsk ?_
   refine ypt ?_
   refine ym ?_
   iterate 5 refine vsk ?_
   refine ypt ?_
   refine vc_end (vq_then (vk3 2 3 30 ?_))
   refine vc_ift rfl ?_
   refine vc_seq (vc_region ?_)
   refine ya ?_
   refine vc_end (vq_then (vk1 4 (vc_ret (vq_then_ret ?_))))
   refine vq_ret1 st (.inl rfl) results17 (.tmp rfl) ?_
   refine ⟨_, rfl, ?_⟩
   refine ⟨?_, st.chg⟩
   rw [sameE_eq]
   first
    | (rw [show decide (e.k = y.k ∧ e.op = y.op ∧ e.wd = y.wd ∧ e.nm = y.nm) = false from by
        simp only [decide_eq_false_iff_not]
        rintro ⟨q1, q2, q3, q4⟩
        simp_all]
       rfl)
  ·intro hg17
   try simp only [dn] at hg17
   refine yfz 2 underlying42 sizeOf2 ?_
   refine yl st 1 isAgg2 ?_
   refine yfz 2 underlying42 sizeOf2 ?_
   refine yl st 0 isAgg2 ?_
   refine vy (y_nei rfl rfl) ?_
   refine ypf ?_
   refine vmb ?_ ?_
   ·intro hg24
    try simp only [dn] at hg24
    iterate 5 refine vsk ?_
    refine ypt ?_
    refine vc_end (vq_then (vk3 2 3 30 ?_))
    refine vc_ift rfl ?_
    refine vc_seq (vc_region ?_)
    refine ya ?_
    refine vc_end (vq_then (vk1 4 (vc_ret (vq_then_ret ?_))))
    refine vq_ret1 st (.inl rfl) results17 (.tmp rfl) ?_
    refine ⟨_, rfl, ?_⟩
    refine ⟨?_, st.chg⟩
    rw [sameE_eq]
    first
     | (rw [show decide (e.k = y.k ∧ e.op = y.op ∧ e.wd = y.wd ∧ e.nm = y.nm) = false from by
         simp only [decide_eq_false_iff_not]
         rintro ⟨q1, q2, q3, q4⟩
         simp_all]
        rfl)
   ·intro hg24
    try simp only [dn] at hg24
    refine yfz 3 underlying42 sizeOf9 ?_
    refine yl st 1 isAgg9 ?_
    refine yfz 3 underlying42 sizeOf9 ?_
    refine yl st 0 isAgg9 ?_
    refine vy (y_nes rfl rfl) ?_
    refine ypf ?_
    refine vc_end (vq_then (vk3 2 3 30 ?_))
    refine vc_ifs rfl ?_ ?_
    ·intro hc30
     try simp only [dn] at hc30
     refine vc_seq (vc_region ?_)
     refine ya ?_
     refine vc_end (vq_then (vk1 4 (vc_ret (vq_then_ret ?_))))
     refine vq_ret1 st (.inl rfl) results17 (.tmp rfl) ?_
     refine ⟨_, rfl, ?_⟩
     refine ⟨?_, st.chg⟩
     rw [sameE_eq]
     first
      | (rw [show decide (e.k = y.k ∧ e.op = y.op ∧ e.wd = y.wd ∧ e.nm = y.nm) = false from by
          simp only [decide_eq_false_iff_not]
          rintro ⟨q1, q2, q3, q4⟩
          simp_all]
         rfl)
    ·intro hc30
     try simp only [dn] at hc30
     refine vc_code_skip (vq_then (vk2 2 3 (vc_seq (vc_region ?_))))
     refine yfz 4 underlying42 sizeOf40 ?_
     refine yl st 1 isAgg40 ?_
     refine yfz 4 underlying42 sizeOf40 ?_
     refine yl st 0 isAgg40 ?_
     refine vc_e (e_call [_, _] rfl rfl call51 rfl (hrec _ (hr.kept (Same.of_nil st.chg)) (hr'.kept (Same.of_nil st.chg))) ?_)
     rintro _ w ⟨rfl, cw⟩
     replace st := st.call0 cw
     refine ya ?_
     refine vc_end (vq_then (vk1 4 (vc_ret ?_)))
     refine vq_ret1 st (.inl rfl) results17 (.tmp rfl) ?_
     refine ⟨_, rfl, ?_⟩
     refine ⟨?_, st.chg⟩
     rw [sameE_eq]
     (rw [show decide (e.k = y.k ∧ e.op = y.op ∧ e.wd = y.wd ∧ e.nm = y.nm) = true from by simp_all, Bool.true_and])

theorem rexprsS_any : ∀ (n : Nat) (a : List Ex), szo a = n → OkEs a → ∀ (b : List Ex) (oa ob : Option Addr) (ca cb : Nat) (w : World), ExRow w S oa a → ExRow w S ob b →
    Ret Tryz.prog 51 [.slice oa a.length ca, .slice ob b.length cb] w fun v w' => v = .bool (zipA sameE a b) ∧ Chg [] w w' := by
 intro n
 refine Nat.strongRecOn n fun n ih => ?_
 intro a hn hok b oa ob ca cb w hA hB
 subst hn
 have hn := hok.1
 refine ret_of [_, _] func51 rfl ntmps51 rfl ?_
 have st := St.init w []
 obtain ⟨w0, rfl⟩ : ∃ w0, w0 = w := ⟨_, rfl⟩
 refine vc_seq (vc_region ?_)
 refine ya ?_
 refine vc_end (vq_then (vk2 0 1 (vc_seq (vc_seq (vc_region ?_)))))
 refine ym ?_
 refine vy (y_lensl rfl underlying40) ?_
 refine ym ?_
 refine vy (y_lensl rfl underlying40) ?_
 refine vy (y_nei rfl rfl) ?_
 refine vc_end (vq_then (vk3 0 1 10 ?_))
 refine vc_ifs rfl ?_ ?_
 ·intro hc10
  try simp only [dn] at hc10
  refine vc_seq (vc_region ?_)
  refine ya ?_
  refine vc_end (vq_then (vk1 4 (vc_ret (vq_then_ret ?_))))
  refine vq_ret1 st (.inl rfl) results51 (.tmp rfl) ?_
  refine ⟨_, rfl, ?_⟩
  refine ⟨?_, st.chg⟩
  rw [zipA_len (by omega)]
 ·intro hc10
  try simp only [dn] at hc10
  have hlen : a.length = b.length := by omega
  refine vc_code_skip (vq_then (vk2 0 1 (vc_seq (vc_seq (vc_region ?_)))))
  refine ym ?_
  refine vy (y_lensl rfl underlying40) ?_
  refine ym ?_
  refine vc_end (vq_then (vk4 0 1 12 13 (vc_block ?_)))
  refine vc_loop (w0 := w0) (M := []) (fun (j : Nat) => [(0, .slice oa a.length ca), (1, .slice ob b.length cb), (12, .int .i64 (a.length : Int)), (13, .int .i64 (j : Int))]) (fun _ => []) (fun j _ => j ≤ a.length ∧ ∀ (i : Nat) x y, i < j → a[i]? = some x → b[i]? = some y → sameE x y = true) (fun j => a.length - j) 0 ⟨rfl, rfl, rfl, rfl, trivial⟩ (st.dr) ⟨by omega, fun i x y h => by omega⟩ ?_
  clear st
  rintro j w ⟨hj, hall⟩ st
  refine vc_seq (vc_region ?_)
  refine vy (y_lss rfl rfl) ?_
  refine vc_end (vq_then (vk5 0 1 12 13 14 (vc_seq ?_)))
  refine vc_ifs rfl ?_ ?_
  ·intro hc14
   try simp only [dn] at hc14
   obtain ⟨x, hx⟩ : ∃ x, a[j]? = some x := ⟨_, List.getElem?_eq_getElem (by omega)⟩
   obtain ⟨y, hy⟩ : ∃ y, b[j]? = some y := ⟨_, List.getElem?_eq_getElem (by omega)⟩
   obtain ⟨gb, go, rfl, hgS, hgl, hg⟩ := ExRow.at hA (by omega)
   obtain ⟨fb, fo, rfl, hfS, hfl, hf⟩ := ExRow.at hB (by omega)
   obtain ⟨o0, c0, hV0, hr0, hc⟩ := hg j x hx
   obtain ⟨o1, c1, hV1, hr1, hd⟩ := hf j y hy
   have hkx := hok.2 j x hx
   have hz := mem_size hx
   have hz2 : szo x.kids < szo a := by have := szo_kids x; omega
   refine vc_code_skip (vq_then (vk4 0 1 12 13 (vc_seq (vc_block (vc_seq (vc_region ?_))))))
   refine ym ?_
   refine ya ?_
   refine vc_end (vq_then (vk5 0 1 5 12 13 (vc_seq ?_)))
   refine vc_draw Tryz.mixed [(0, true), (1, true), (2, true), (3, true), (4, true), (5, true), (6, true), (7, true), (8, false), (9, true)] (fun w => St _ _ _ w) st (by kernel_rfl) (by repeat (first | exact okQ_body | refine okQ_then ?_ | refine okQ_block ?_)) rfl (by kernel_rfl) ?_
   intro w cd; replace st := st.call0 cd; clear cd
   have hS := st
   iterate 2 refine pm hS ?_
   refine vp_take rfl rfl rfl hS (fun w st => y_ia (k := j) rfl rfl underlying40 sizeOf42 rfl (by omega)) ?_
   refine vp_take rfl rfl rfl hS (fun w st => y_ldca (exL x o0 c0) rfl isAgg42 sizeOf42 rfl (fun i v hi => st.chg.cell (hc i v hi) (by simp))) ?_
   iterate 2 refine pm hS ?_
   refine vp_take rfl rfl rfl hS (fun w st => y_ia (k := j) rfl rfl underlying40 sizeOf42 rfl (by omega)) ?_
   refine vp_take rfl rfl rfl hS (fun w st => y_ldca (exL y o1 c1) rfl isAgg42 sizeOf42 rfl (fun i v hi => st.chg.cell (hd i v hi) (by simp))) ?_
   refine vp_do rfl (e_call [_, _] rfl rfl call17 rfl (rsameE_any x y o0 o1 c0 c1 _ (hr0.kept (Same.of_nil st.chg)) (hr1.kept (Same.of_nil st.chg)) (fun w h1 h2 => ih _ hz2 x.kids rfl hkx.kids y.kids _ _ _ _ w h1 h2)) ?_)
   rintro _ w ⟨rfl, cw⟩
   replace st := st.call0 cw
   refine vp_next (by exact st) ?_; intro hS
   refine vp_take rfl rfl rfl hS (fun w st => y_not rfl) ?_
   refine vp_end (vq_then (vk5 0 1 12 13 25 ?_))
   refine vc_ifs rfl ?_ ?_
   ·intro hc25
    try simp only [dn] at hc25
    refine vc_seq (vc_region ?_)
    refine ya ?_
    refine vc_end (vq_then (vk1 4 (vc_ret (vq_block_ret (vq_then_ret (vq_then_ret (vq_block_ret (vq_then_ret ?_))))))))
    refine vq_ret1 st (.inl rfl) results51 (.tmp rfl) ?_
    refine ⟨_, rfl, ?_⟩
    refine ⟨?_, st.chg⟩
    rw [zipA_no hx hy (by assumption)]
   ·intro hc25
    try simp only [dn] at hc25
    refine vc_code_skip (vq_block (vq_then (vk4 0 1 12 13 (vc_region ?_))))
    refine vy (y_add rfl rfl (by omega : _ = ((j + 1 : Nat) : Int)) (by omega) (by omega)) ?_
    refine ym ?_
    refine vc_end ?_
    refine vq_again (j + 1)  ⟨rfl, rfl, rfl, rfl, trivial⟩ (st.dr) ?_ ?_
    ·exact ⟨by omega, fun i x' y' hi h1 h2 => by
       rcases (by omega : i < j ∨ i = j) with h | rfl
       · exact hall i x' y' h h1 h2
       · rw [hx] at h1; rw [hy] at h2; cases h1; cases h2; assumption⟩
    ·omega
  ·intro hc14
   try simp only [dn] at hc14
   refine vc_exit (vq_then_exit (vq_then_exit (vq_block_exit (vq_then (vc_keep [] trivial (vc_seq (vc_region ?_)))))))
   refine ya ?_
   refine vc_end (vq_then (vk1 4 (vc_ret ?_)))
   refine vq_ret1 st (.inl rfl) results51 (.tmp rfl) ?_
   refine ⟨_, rfl, ?_⟩
   refine ⟨?_, st.chg⟩
   rw [zipA_yes hlen fun i x y hi h1 h2 => hall i x y (by omega) h1 h2]

set_option maxHeartbeats 1000000 in
theorem rstmtsS_any : ∀ (n : Nat) (a : List Sm), szo a = n → OkSs a → ∀ (b : List Sm) (oa ob : Option Addr) (ca cb : Nat) (w : World), SmRow w S oa a → SmRow w S ob b →
    Ret Tryz.prog 45 [.slice oa a.length ca, .slice ob b.length cb] w fun v w' => v = .bool (zipA sameS a b) ∧ Chg [] w w' := by
 intro n
 refine Nat.strongRecOn n fun n ih => ?_
 intro a hn hok b oa ob ca cb w hA hB
 subst hn
 have hn := hok.1
 refine ret_of [_, _] func45 rfl ntmps45 rfl ?_
 have st := St.init w []
 obtain ⟨w0, rfl⟩ : ∃ w0, w0 = w := ⟨_, rfl⟩
 refine vc_seq (vc_region ?_)
 refine ya ?_
 refine vc_end (vq_then (vk2 0 1 (vc_seq (vc_seq (vc_region ?_)))))
 refine ym ?_
 refine vy (y_lensl rfl underlying65) ?_
 refine ym ?_
 refine vy (y_lensl rfl underlying65) ?_
 refine vy (y_nei rfl rfl) ?_
 refine vc_end (vq_then (vk3 0 1 12 ?_))
 refine vc_ifs rfl ?_ ?_
 ·intro hc12
  try simp only [dn] at hc12
  refine vc_seq (vc_region ?_)
  refine ya ?_
  refine vc_end (vq_then (vk1 4 (vc_ret (vq_then_ret ?_))))
  refine vq_ret1 st (.inl rfl) results45 (.tmp rfl) ?_
  refine ⟨_, rfl, ?_⟩
  refine ⟨?_, st.chg⟩
  rw [zipA_len (by omega)]
 ·intro hc12
  try simp only [dn] at hc12
  have hlen : a.length = b.length := by omega
  refine vc_code_skip (vq_then (vk2 0 1 (vc_seq (vc_seq (vc_region ?_)))))
  refine ym ?_
  refine vy (y_lensl rfl underlying65) ?_
  refine ym ?_
  refine vc_end (vq_then (vk4 0 1 14 15 (vc_block ?_)))
  refine vc_loop (w0 := w0) (M := []) (fun (j : Nat) => [(0, .slice oa a.length ca), (1, .slice ob b.length cb), (14, .int .i64 (a.length : Int)), (15, .int .i64 (j : Int))]) (fun _ => []) (fun j _ => j ≤ a.length ∧ ∀ (i : Nat) x y, i < j → a[i]? = some x → b[i]? = some y → sameS x y = true) (fun j => a.length - j) 0 ⟨rfl, rfl, rfl, rfl, trivial⟩ (st.dr) ⟨by omega, fun i x y h => by omega⟩ ?_
  clear st
  rintro j w ⟨hj, hall⟩ st
  refine vc_seq (vc_region ?_)
  refine vy (y_lss rfl rfl) ?_
  refine vc_end (vq_then (vk5 0 1 14 15 16 (vc_seq ?_)))
  refine vc_ifs rfl ?_ ?_
  ·intro hc16
   try simp only [dn] at hc16
   obtain ⟨x, hx⟩ : ∃ x, a[j]? = some x := ⟨_, List.getElem?_eq_getElem (by omega)⟩
   obtain ⟨y, hy⟩ : ∃ y, b[j]? = some y := ⟨_, List.getElem?_eq_getElem (by omega)⟩
   obtain ⟨gb, go, rfl, hgS, hgl, hg⟩ := SmRow.at hA (by omega)
   obtain ⟨fb, fo, rfl, hfS, hfl, hf⟩ := SmRow.at hB (by omega)
   obtain ⟨oe, obb, ol, ce, cbb, cl, hsV, hse, hsb, hsl, hc⟩ := hg j x hx
   obtain ⟨oe', obb', ol', ce', cbb', cl', hsV', hse', hsb', hsl', hd⟩ := hf j y hy
   have hkx := hok.2 j x hx
   have hz := mem_size hx
   have hB2 : szo x.body < szo a := by have : szo x.body < szo x := by cases x; exact sm_size.1
                                       omega
   have hL2 : szo x.els < szo a := by have : szo x.els < szo x := by cases x; exact sm_size.2
                                      omega
   refine vc_code_skip (vq_then (vk4 0 1 14 15 (vc_seq (vc_block (vc_seq (vc_region ?_))))))
   refine ym ?_
   refine ya ?_
   refine vc_end (vq_then (vk5 0 1 5 14 15 ?_))
   refine vc_cut (w0 := w0) (M := []) (fun (z : Nat × Nat) => [(0, .slice (some ⟨gb, go, none⟩) a.length ca), (1, .slice (some ⟨fb, fo, none⟩) b.length cb), (6, .pointer (some ⟨z.1, 0, none⟩)), (7, .pointer (some ⟨z.2, 0, none⟩)), (14, .int .i64 (a.length : Int)), (15, .int .i64 (j : Int))]) (fun z => [.blk z.1 (.cells [.int .u8 x.k, str x.nm, str x.other, .slice oe x.e.length ce, .slice obb x.body.length cbb, .slice ol x.els.length cl, .int .i64 x.a].toArray 67 (0, 0)), .blk z.2 (.cells [.int .u8 y.k, str y.nm, str y.other, .slice oe' y.e.length ce', .slice obb' y.body.length cbb', .slice ol' y.els.length cl', .int .i64 y.a].toArray 67 (0, 0))]) (fun _ _ => True) ?_ ?_
   ·refine vd_draw Tryz.mixed (.take 0 (.take 1 (.take 2 (.take 3 (.take 4 (.take 5 (.take 6 (.take 7 (.two 8 9 (.one 9 (.one 10 (.one 11 .done))) (.one 8 (.one 10 (.one 11 .done)))))))))))) (fun w => St _ _ _ w) st (by kernel_rfl) (by repeat (first | exact okQ_body | refine okQ_then ?_ | refine okQ_block ?_)) rfl (by kernel_rfl) ?_
    intro w cd; replace st := st.call0 cd; clear cd
    have hS := st
    iterate 2 refine dm hS ?_
    refine vd_take rfl rfl rfl hS (fun w st => y_ia (k := j) rfl rfl underlying65 sizeOf67 rfl (by omega)) ?_
    refine vd_take rfl rfl rfl hS (fun w st => y_ldca (smL x oe obb ol ce cbb cl) rfl isAgg67 sizeOf67 rfl (fun i v hi => st.chg.cell (hc i v hi) (by simp))) ?_
    iterate 2 refine dm hS ?_
    refine vd_take rfl rfl rfl hS (fun w st => y_ia (k := j) rfl rfl underlying65 sizeOf67 rfl (by omega)) ?_
    refine vd_take rfl rfl rfl hS (fun w st => y_ldca (smL y oe' obb' ol' ce' cbb' cl') rfl isAgg67 sizeOf67 rfl (fun i v hi => st.chg.cell (hd i v hi) (by simp))) ?_
    refine vd_two rfl rfl ?_ ?_
    ·refine (e_al (l := [_, _, _, _, _, _, _]) st rfl rfl zeroValue67 rfl ?_)
     intro b6 w hb6 st
     refine vd_next st.dr ?_; intro hS
     refine vd_do rfl (e_al (l := [_, _, _, _, _, _, _]) st rfl rfl zeroValue67 rfl ?_)
     intro b7 w hb7 st
     refine vd_next st.dr ?_; intro hS
     refine vd_do rfl (e_sts (vs := [_, _, _, _, _, _, _]) st 1 rfl rfl rfl rfl rfl sizeOf67 rfl rfl (by (right; assumption)) ?_)
     intro w st; dsimp only [setNth, wr] at st
     refine vd_next st.dr ?_; intro hS
     refine vd_do rfl (e_sts (vs := [_, _, _, _, _, _, _]) st 0 rfl rfl rfl rfl rfl sizeOf67 rfl rfl (by (right; assumption)) ?_)
     intro w st; dsimp only [setNth, wr] at st
     refine vd_next st.dr ?_; intro hS
     refine vd_end ?_
     refine vq_meet (b6, b7) ⟨rfl, rfl, rfl, rfl, rfl, rfl, trivial⟩ (st.pick [1, 0] rfl (by decide)) ?_
     ·trivial
    ·refine (e_al (l := [_, _, _, _, _, _, _]) st rfl rfl zeroValue67 rfl ?_)
     intro b7 w hb7 st
     refine vd_next st.dr ?_; intro hS
     refine vd_do rfl (e_al (l := [_, _, _, _, _, _, _]) st rfl rfl zeroValue67 rfl ?_)
     intro b6 w hb6 st
     refine vd_next st.dr ?_; intro hS
     refine vd_do rfl (e_sts (vs := [_, _, _, _, _, _, _]) st 0 rfl rfl rfl rfl rfl sizeOf67 rfl rfl (by (right; assumption)) ?_)
     intro w st; dsimp only [setNth, wr] at st
     refine vd_next st.dr ?_; intro hS
     refine vd_do rfl (e_sts (vs := [_, _, _, _, _, _, _]) st 1 rfl rfl rfl rfl rfl sizeOf67 rfl rfl (by (right; assumption)) ?_)
     intro w st; dsimp only [setNth, wr] at st
     refine vd_next st.dr ?_; intro hS
     refine vd_end ?_
     refine vq_meet (b6, b7) ⟨rfl, rfl, rfl, rfl, rfl, rfl, trivial⟩ st ?_
     ·trivial
   ·clear st
    rintro ⟨b6, b7⟩ w - st
    dsimp only at *
    refine vc_seq (vc_region ?_)
    refine vy (y_fa0 rfl underlying67 rfl rfl sizeOf64 rfl) ?_
    refine yl st 0 isAgg64 ?_
    refine vy (y_fa0 rfl underlying67 rfl rfl sizeOf64 rfl) ?_
    refine yl st 1 isAgg64 ?_
    refine vy (y_nei rfl rfl) ?_
    refine vmb ?_ ?_
    ·intro hg31
     try simp only [dn] at hg31
     iterate 5 refine vsk ?_
     refine ypt ?_
     refine ym ?_
     iterate 5 refine vsk ?_
     refine ypt ?_
     refine ym ?_
     iterate 6 refine vsk ?_
     refine ypt ?_
     refine ym ?_
     iterate 6 refine vsk ?_
     refine ypt ?_
     refine ym ?_
     iterate 6 refine vsk ?_
     refine ypt ?_
     refine vc_end (vq_then (vk5 0 1 14 15 68 ?_))
     refine vc_ift rfl ?_
     refine vc_seq (vc_region ?_)
     refine ya ?_
     refine vc_end (vq_then (vk1 4 (vc_ret (vq_block_ret (vq_then_ret (vq_then_ret (vq_block_ret (vq_then_ret ?_))))))))
     refine vq_ret1 st (.inl rfl) results45 (.tmp rfl) ?_
     refine ⟨_, rfl, ?_⟩
     refine ⟨?_, st.chg⟩
     rw [zipA_no hx hy (by rw [sameS_eq]; clear st; simp_all)]
    ·intro hg31
     try simp only [dn] at hg31
     refine yfz 1 underlying67 sizeOf9 ?_
     refine yl st 0 isAgg9 ?_
     refine yfz 1 underlying67 sizeOf9 ?_
     refine yl st 1 isAgg9 ?_
     refine vy (y_nes rfl rfl) ?_
     refine ypf ?_
     refine vmb ?_ ?_
     ·intro hg38
      try simp only [dn] at hg38
      iterate 5 refine vsk ?_
      refine ypt ?_
      refine ym ?_
      iterate 6 refine vsk ?_
      refine ypt ?_
      refine ym ?_
      iterate 6 refine vsk ?_
      refine ypt ?_
      refine ym ?_
      iterate 6 refine vsk ?_
      refine ypt ?_
      refine vc_end (vq_then (vk5 0 1 14 15 68 ?_))
      refine vc_ift rfl ?_
      refine vc_seq (vc_region ?_)
      refine ya ?_
      refine vc_end (vq_then (vk1 4 (vc_ret (vq_block_ret (vq_then_ret (vq_then_ret (vq_block_ret (vq_then_ret ?_))))))))
      refine vq_ret1 st (.inl rfl) results45 (.tmp rfl) ?_
      refine ⟨_, rfl, ?_⟩
      refine ⟨?_, st.chg⟩
      rw [zipA_no hx hy (by rw [sameS_eq]; clear st; simp_all)]
     ·intro hg38
      try simp only [dn] at hg38
      refine yfz 2 underlying67 sizeOf9 ?_
      refine yl st 0 isAgg9 ?_
      refine yfz 2 underlying67 sizeOf9 ?_
      refine yl st 1 isAgg9 ?_
      refine vy (y_nes rfl rfl) ?_
      refine ypf ?_
      refine vmb ?_ ?_
      ·intro hg45
       try simp only [dn] at hg45
       iterate 6 refine vsk ?_
       refine ypt ?_
       refine ym ?_
       iterate 6 refine vsk ?_
       refine ypt ?_
       refine ym ?_
       iterate 6 refine vsk ?_
       refine ypt ?_
       refine vc_end (vq_then (vk5 0 1 14 15 68 ?_))
       refine vc_ift rfl ?_
       refine vc_seq (vc_region ?_)
       refine ya ?_
       refine vc_end (vq_then (vk1 4 (vc_ret (vq_block_ret (vq_then_ret (vq_then_ret (vq_block_ret (vq_then_ret ?_))))))))
       refine vq_ret1 st (.inl rfl) results45 (.tmp rfl) ?_
       refine ⟨_, rfl, ?_⟩
       refine ⟨?_, st.chg⟩
       rw [zipA_no hx hy (by rw [sameS_eq]; clear st; simp_all)]
      ·intro hg45
       try simp only [dn] at hg45
       refine yfz 3 underlying67 sizeOf40 ?_
       refine yl st 0 isAgg40 ?_
       refine yfz 3 underlying67 sizeOf40 ?_
       refine yl st 1 isAgg40 ?_
       refine vc_e (e_call [_, _] rfl rfl call51 rfl (rexprsS_any _ x.e rfl hkx.e y.e _ _ _ _ _ (hse.kept (Same.of_nil st.chg)) (hse'.kept (Same.of_nil st.chg))) ?_)
       rintro _ w ⟨rfl, cw⟩
       replace st := st.call0 cw
       refine vy (y_not rfl) ?_
       refine ypf ?_
       refine vmb ?_ ?_
       ·intro hg53
        try simp only [dn] at hg53
        iterate 6 refine vsk ?_
        refine ypt ?_
        refine ym ?_
        iterate 6 refine vsk ?_
        refine ypt ?_
        refine vc_end (vq_then (vk5 0 1 14 15 68 ?_))
        refine vc_ift rfl ?_
        refine vc_seq (vc_region ?_)
        refine ya ?_
        refine vc_end (vq_then (vk1 4 (vc_ret (vq_block_ret (vq_then_ret (vq_then_ret (vq_block_ret (vq_then_ret ?_))))))))
        refine vq_ret1 st (.inl rfl) results45 (.tmp rfl) ?_
        refine ⟨_, rfl, ?_⟩
        refine ⟨?_, st.chg⟩
        rw [zipA_no hx hy (by rw [sameS_eq]; clear st; simp_all)]
       ·intro hg53
        try simp only [dn] at hg53
        refine yfz 4 underlying67 sizeOf65 ?_
        refine yl st 0 isAgg65 ?_
        refine yfz 4 underlying67 sizeOf65 ?_
        refine yl st 1 isAgg65 ?_
        refine vc_e (e_call [_, _] rfl rfl call45 rfl (ih _ hB2 x.body rfl hkx.body y.body _ _ _ _ _ (hsb.kept (Same.of_nil st.chg)) (hsb'.kept (Same.of_nil st.chg))) ?_)
        rintro _ w ⟨rfl, cw⟩
        replace st := st.call0 cw
        refine vy (y_not rfl) ?_
        refine ypf ?_
        refine vmb ?_ ?_
        ·intro hg61
         try simp only [dn] at hg61
         iterate 6 refine vsk ?_
         refine ypt ?_
         refine vc_end (vq_then (vk5 0 1 14 15 68 ?_))
         refine vc_ift rfl ?_
         refine vc_seq (vc_region ?_)
         refine ya ?_
         refine vc_end (vq_then (vk1 4 (vc_ret (vq_block_ret (vq_then_ret (vq_then_ret (vq_block_ret (vq_then_ret ?_))))))))
         refine vq_ret1 st (.inl rfl) results45 (.tmp rfl) ?_
         refine ⟨_, rfl, ?_⟩
         refine ⟨?_, st.chg⟩
         rw [zipA_no hx hy (by rw [sameS_eq]; clear st; simp_all)]
        ·intro hg61
         try simp only [dn] at hg61
         refine yfz 5 underlying67 sizeOf65 ?_
         refine yl st 0 isAgg65 ?_
         refine yfz 5 underlying67 sizeOf65 ?_
         refine yl st 1 isAgg65 ?_
         refine vc_e (e_call [_, _] rfl rfl call45 rfl (ih _ hL2 x.els rfl hkx.els y.els _ _ _ _ _ (hsl.kept (Same.of_nil st.chg)) (hsl'.kept (Same.of_nil st.chg))) ?_)
         rintro _ w ⟨rfl, cw⟩
         replace st := st.call0 cw
         refine vy (y_not rfl) ?_
         refine ypf ?_
         refine vc_end (vq_then (vk5 0 1 14 15 68 ?_))
         refine vc_ifs rfl ?_ ?_
         ·intro hc68
          try simp only [dn] at hc68
          refine vc_seq (vc_region ?_)
          refine ya ?_
          refine vc_end (vq_then (vk1 4 (vc_ret (vq_block_ret (vq_then_ret (vq_then_ret (vq_block_ret (vq_then_ret ?_))))))))
          refine vq_ret1 st (.inl rfl) results45 (.tmp rfl) ?_
          refine ⟨_, rfl, ?_⟩
          refine ⟨?_, st.chg⟩
          rw [zipA_no hx hy (by rw [sameS_eq]; clear st; simp_all)]
         ·intro hc68
          try simp only [dn] at hc68
          refine vc_code_skip (vq_block (vq_then (vk4 0 1 14 15 (vc_region ?_))))
          refine vy (y_add rfl rfl (by omega : _ = ((j + 1 : Nat) : Int)) (by omega) (by omega)) ?_
          refine ym ?_
          refine vc_end ?_
          refine vq_again (j + 1)  ⟨rfl, rfl, rfl, rfl, trivial⟩ (st.dr) ?_ ?_
          ·exact ⟨by omega, fun i x' y' hi h1 h2 => by
             rcases (by omega : i < j ∨ i = j) with h | rfl
             · exact hall i x' y' h h1 h2
             · rw [hx] at h1; rw [hy] at h2; cases h1; cases h2; (rw [sameS_eq]; clear st; simp_all)⟩
          ·omega
  ·intro hc16
   try simp only [dn] at hc16
   refine vc_exit (vq_then_exit (vq_then_exit (vq_block_exit (vq_then (vc_keep [] trivial (vc_seq (vc_region ?_)))))))
   refine ya ?_
   refine vc_end (vq_then (vk1 4 (vc_ret ?_)))
   refine vq_ret1 st (.inl rfl) results45 (.tmp rfl) ?_
   refine ⟨_, rfl, ?_⟩
   refine ⟨?_, st.chg⟩
   rw [zipA_yes hlen fun i x y hi h1 h2 => hall i x y (by omega) h1 h2]

end
end Go.Proofs.YtnmhlpnapgojjaaGreatDoor


namespace Go.Proofs.YtnmhlpnapgojjaaGreatDoor
open Go.RowKit Sx LexS _root_.Go.Proofs.Tryz
section
variable {S : Nat → Prop}
set_option maxHeartbeats 2000000 in
theorem rsamePg_any (p q : Pg) (hok : OkP p) (os ol ot os' ol' ot' : Option Addr) (cs cl ct cs' cl' ct' : Nat) (w : World) (hSh : DcRow w S os p.shared) (hL : DcRow w S ol p.locks) (hT : ThRow w S ot p.threads) (hSh' : DcRow w S os' q.shared) (hL' : DcRow w S ol' q.locks) (hT' : ThRow w S ot' q.threads) :
    Ret Tryz.prog 14 [.agg (pgL p os ol ot cs cl ct).toArray, .agg (pgL q os' ol' ot' cs' cl' ct').toArray] w fun v w' => v = .bool (sameP p q) ∧ Chg [] w w' := by
 refine ret_of [_, _] func14 rfl ntmps14 rfl ?_
 have st := St.init w []
 obtain ⟨w0, rfl⟩ : ∃ w0, w0 = w := ⟨_, rfl⟩
 have hn1 := hok.1.1
 have hn2 := hok.2.1.1
 have hn3 := hok.2.2.1
 refine vc_seq (vc_region ?_)
 refine vc_e (e_bx (l := [_, _, _]) st rfl rfl rfl rfl ?_)
 intro b2 w hb2 st
 refine vc_e (e_bx (l := [_, _, _]) st rfl rfl rfl rfl ?_)
 intro b3 w hb3 st
 refine ya ?_
 refine vc_end (vq_then (vk2 2 3 (vc_seq (vc_seq (vc_region ?_)))))
 refine vy (y_fa0 rfl underlying26 rfl rfl sizeOf23 rfl) ?_
 refine yl st 1 isAgg23 ?_
 refine vy (y_fa0 rfl underlying26 rfl rfl sizeOf23 rfl) ?_
 refine yl st 0 isAgg23 ?_
 refine vc_e (e_call [_, _] rfl rfl call44 rfl (rdeclsS_any p.shared q.shared _ _ _ _ _ (RowC.kept hSh (Same.of_nil st.chg)) (RowC.kept hSh' (Same.of_nil st.chg)) (by omega)) ?_)
 rintro _ w ⟨rfl, cw⟩
 replace st := st.call0 cw
 refine vy (y_not rfl) ?_
 refine vmb ?_ ?_
 ·intro hg14
  try simp only [dn] at hg14
  iterate 6 refine vsk ?_
  refine ypt ?_
  refine ym ?_
  iterate 7 refine vsk ?_
  refine ypt ?_
  refine vc_end (vq_then (vk3 2 3 30 ?_))
  refine vc_ift rfl ?_
  refine vc_seq (vc_region ?_)
  refine ya ?_
  refine vc_end (vq_then (vk1 4 (vc_ret (vq_then_ret ?_))))
  refine vq_ret1 st (.inl rfl) results14 (.tmp rfl) ?_
  refine ⟨_, rfl, ?_⟩
  refine ⟨?_, st.chg⟩
  clear st
  unfold sameP
  (rw [‹zipA sameD p.shared q.shared = false›]; simp; done)
 ·intro hg14
  try simp only [dn] at hg14
  refine yfz 1 underlying26 sizeOf23 ?_
  refine yl st 1 isAgg23 ?_
  refine yfz 1 underlying26 sizeOf23 ?_
  refine yl st 0 isAgg23 ?_
  refine vc_e (e_call [_, _] rfl rfl call44 rfl (rdeclsS_any p.locks q.locks _ _ _ _ _ (RowC.kept hL (Same.of_nil st.chg)) (RowC.kept hL' (Same.of_nil st.chg)) (by omega)) ?_)
  rintro _ w ⟨rfl, cw⟩
  replace st := st.call0 cw
  refine vy (y_not rfl) ?_
  refine ypf ?_
  refine vmb ?_ ?_
  ·intro hg22
   try simp only [dn] at hg22
   iterate 7 refine vsk ?_
   refine ypt ?_
   refine vc_end (vq_then (vk3 2 3 30 ?_))
   refine vc_ift rfl ?_
   refine vc_seq (vc_region ?_)
   refine ya ?_
   refine vc_end (vq_then (vk1 4 (vc_ret (vq_then_ret ?_))))
   refine vq_ret1 st (.inl rfl) results14 (.tmp rfl) ?_
   refine ⟨_, rfl, ?_⟩
   refine ⟨?_, st.chg⟩
   clear st
   unfold sameP
   (rw [‹zipA sameD p.locks q.locks = false›]; simp; done)
  ·intro hg22
   try simp only [dn] at hg22
   refine yfz 2 underlying26 sizeOf24 ?_
   refine yl st 1 isAgg24 ?_
   refine vy (y_lensl rfl underlying24) ?_
   refine yfz 2 underlying26 sizeOf24 ?_
   refine yl st 0 isAgg24 ?_
   refine vy (y_lensl rfl underlying24) ?_
   refine vy (y_nei rfl rfl) ?_
   refine ypf ?_
   refine vc_end (vq_then (vk3 2 3 30 ?_))
   refine vc_ifs rfl ?_ ?_
   ·intro hc30
    try simp only [dn] at hc30
    refine vc_seq (vc_region ?_)
    refine ya ?_
    refine vc_end (vq_then (vk1 4 (vc_ret (vq_then_ret ?_))))
    refine vq_ret1 st (.inl rfl) results14 (.tmp rfl) ?_
    refine ⟨_, rfl, ?_⟩
    refine ⟨?_, st.chg⟩
    clear st
    unfold sameP
    (rw [zipA_len (f := sameT) (by omega)]; simp; done)
   ·intro hc30
    try simp only [dn] at hc30
    have hlen : p.threads.length = q.threads.length := by omega
    refine vc_code_skip (vq_then (vk2 2 3 (vc_seq (vc_seq (vc_region ?_)))))
    refine yfz 2 underlying26 sizeOf24 ?_
    refine yl st 1 isAgg24 ?_
    refine vy (y_lensl rfl underlying24) ?_
    refine ym ?_
    refine vc_end (vq_then (vk4 2 3 33 34 (vc_block ?_)))
    refine vc_loop (w0 := w0) (M := []) (fun (j : Nat) => [(2, .pointer (some ⟨b2, 0, none⟩)), (3, .pointer (some ⟨b3, 0, none⟩)), (33, .int .i64 (p.threads.length : Int)), (34, .int .i64 (j : Int))]) (fun _ => [.blk b2 (.cells (pgL p os ol ot cs cl ct).toArray 26 (0, 0)), .blk b3 (.cells (pgL q os' ol' ot' cs' cl' ct').toArray 26 (0, 0))]) (fun j _ => j ≤ p.threads.length ∧ ∀ (i : Nat) x y, i < j → p.threads[i]? = some x → q.threads[i]? = some y → sameT x y = true) (fun j => p.threads.length - j) 0 ⟨rfl, rfl, rfl, rfl, trivial⟩ (st.pick [1, 0] rfl (by decide)) ⟨by omega, fun i x y h => by omega⟩ ?_
    clear st
    rintro j w ⟨hj, hall⟩ st
    refine vc_seq (vc_region ?_)
    refine vy (y_lss rfl rfl) ?_
    refine vc_end (vq_then (vk5 2 3 33 34 35 (vc_seq ?_)))
    refine vc_ifs rfl ?_ ?_
    ·intro hc35
     try simp only [dn] at hc35
     have stK := st
     obtain ⟨x, hx⟩ : ∃ x, p.threads[j]? = some x := ⟨_, List.getElem?_eq_getElem (by omega)⟩
     obtain ⟨y, hy⟩ : ∃ y, q.threads[j]? = some y := ⟨_, List.getElem?_eq_getElem (by omega)⟩
     obtain ⟨gb, go, rfl, hgS, hgl, hg⟩ := ThRow.at hT (by omega)
     obtain ⟨fb, fo, rfl, hfS, hfl, hf⟩ := ThRow.at hT' (by omega)
     obtain ⟨tl, tb, cll, cbb, htl, htb, hc⟩ := hg j x hx
     obtain ⟨ul, ub, dll, dbb, hul, hub, hd⟩ := hf j y hy
     have hkx := hok.2.2.2 j x hx
     have st := stK
     clear stK
     refine vc_code_skip (vq_then (vk4 2 3 33 34 (vc_seq (vc_block (vc_seq (vc_region ?_))))))
     refine ym ?_
     refine ya ?_
     refine vc_end (vq_then (vk5 2 3 5 33 34 ?_))
     refine vc_cut (w0 := w0) (M := []) (fun (z : Nat × Nat) => [(2, .pointer (some ⟨b2, 0, none⟩)), (3, .pointer (some ⟨b3, 0, none⟩)), (6, .pointer (some ⟨z.1, 0, none⟩)), (7, .pointer (some ⟨z.2, 0, none⟩)), (33, .int .i64 (p.threads.length : Int)), (34, .int .i64 (j : Int))]) (fun z => [.blk b2 (.cells (pgL p os ol (some ⟨gb, go, none⟩) cs cl ct).toArray 26 (0, 0)), .blk b3 (.cells (pgL q os' ol' (some ⟨fb, fo, none⟩) cs' cl' ct').toArray 26 (0, 0)), .blk z.1 (.cells (thL x tl tb cll cbb).toArray 69 (0, 0)), .blk z.2 (.cells (thL y ul ub dll dbb).toArray 69 (0, 0))]) (fun _ _ => True) ?_ ?_
     ·refine vd_draw Tryz.mixed (.take 0 (.take 1 (.take 2 (.take 3 (.take 4 (.take 5 (.take 6 (.take 7 (.take 8 (.take 9 (.two 10 11 (.one 11 (.one 12 (.one 13 .done))) (.one 10 (.one 12 (.one 13 .done)))))))))))))) (fun w => St _ _ _ w) st (by kernel_rfl) (by repeat (first | exact okQ_body | refine okQ_then ?_ | refine okQ_block ?_)) rfl (by kernel_rfl) ?_
      intro w cd; replace st := st.call0 cd; clear cd
      have hS := st
      refine dfz hS 2 underlying26 sizeOf24 ?_
      refine dld hS 0 isAgg24 ?_
      refine dm hS ?_
      refine vd_take rfl rfl rfl hS (fun w st => y_ia (k := j) rfl rfl underlying24 sizeOf69 rfl (by omega)) ?_
      refine vd_take rfl rfl rfl hS (fun w st => y_ldca (thL x tl tb cll cbb) rfl isAgg69 sizeOf69 rfl (fun i v hi => st.chg.cell (hc i v hi) (by simp))) ?_
      refine dfz hS 2 underlying26 sizeOf24 ?_
      refine dld hS 1 isAgg24 ?_
      refine dm hS ?_
      refine vd_take rfl rfl rfl hS (fun w st => y_ia (k := j) rfl rfl underlying24 sizeOf69 rfl (by omega)) ?_
      refine vd_take rfl rfl rfl hS (fun w st => y_ldca (thL y ul ub dll dbb) rfl isAgg69 sizeOf69 rfl (fun i v hi => st.chg.cell (hd i v hi) (by simp))) ?_
      refine vd_two rfl rfl ?_ ?_
      ·refine (e_al (l := [_, _, _, _]) st rfl rfl zeroValue69 rfl ?_)
       intro b6 w hb6 st
       refine vd_next st.dr ?_; intro hS
       refine vd_do rfl (e_al (l := [_, _, _, _]) st rfl rfl zeroValue69 rfl ?_)
       intro b7 w hb7 st
       refine vd_next st.dr ?_; intro hS
       refine vd_do rfl (e_sts (vs := [_, _, _, _]) st 1 rfl rfl rfl rfl rfl sizeOf69 rfl rfl (by (right; assumption)) ?_)
       intro w st; dsimp only [setNth, wr] at st
       refine vd_next st.dr ?_; intro hS
       refine vd_do rfl (e_sts (vs := [_, _, _, _]) st 0 rfl rfl rfl rfl rfl sizeOf69 rfl rfl (by (right; assumption)) ?_)
       intro w st; dsimp only [setNth, wr] at st
       refine vd_next st.dr ?_; intro hS
       refine vd_end ?_
       refine vq_meet (b6, b7) ⟨rfl, rfl, rfl, rfl, rfl, rfl, trivial⟩ (st.pick [2, 3, 1, 0] rfl (by decide)) ?_
       ·trivial
      ·refine (e_al (l := [_, _, _, _]) st rfl rfl zeroValue69 rfl ?_)
       intro b7 w hb7 st
       refine vd_next st.dr ?_; intro hS
       refine vd_do rfl (e_al (l := [_, _, _, _]) st rfl rfl zeroValue69 rfl ?_)
       intro b6 w hb6 st
       refine vd_next st.dr ?_; intro hS
       refine vd_do rfl (e_sts (vs := [_, _, _, _]) st 0 rfl rfl rfl rfl rfl sizeOf69 rfl rfl (by (right; assumption)) ?_)
       intro w st; dsimp only [setNth, wr] at st
       refine vd_next st.dr ?_; intro hS
       refine vd_do rfl (e_sts (vs := [_, _, _, _]) st 1 rfl rfl rfl rfl rfl sizeOf69 rfl rfl (by (right; assumption)) ?_)
       intro w st; dsimp only [setNth, wr] at st
       refine vd_next st.dr ?_; intro hS
       refine vd_end ?_
       refine vq_meet (b6, b7) ⟨rfl, rfl, rfl, rfl, rfl, rfl, trivial⟩ (st.pick [2, 3, 0, 1] rfl (by decide)) ?_
       ·trivial
     ·clear st
      rintro ⟨b6, b7⟩ w - st
      dsimp only at *
      refine vc_seq (vc_region ?_)
      refine vy (y_fa0 rfl underlying69 rfl rfl sizeOf9 rfl) ?_
      refine yl st 2 isAgg9 ?_
      refine vy (y_fa0 rfl underlying69 rfl rfl sizeOf9 rfl) ?_
      refine yl st 3 isAgg9 ?_
      refine vy (y_nes rfl rfl) ?_
      refine vmb ?_ ?_
      ·intro hg52
       try simp only [dn] at hg52
       iterate 6 refine vsk ?_
       refine ypt ?_
       refine ym ?_
       iterate 6 refine vsk ?_
       refine ypt ?_
       refine vc_end (vq_then (vk5 2 3 33 34 67 ?_))
       refine vc_ift rfl ?_
       refine vc_seq (vc_region ?_)
       refine ya ?_
       refine vc_end (vq_then (vk1 4 (vc_ret (vq_block_ret (vq_then_ret (vq_then_ret (vq_block_ret (vq_then_ret ?_))))))))
       refine vq_ret1 st (.inl rfl) results14 (.tmp rfl) ?_
       refine ⟨_, rfl, ?_⟩
       refine ⟨?_, st.chg⟩
       clear st
       unfold sameP
       (rw [zipA_no (f := sameT) hx hy (by unfold sameT; simp_all)]; simp; done)
      ·intro hg52
       try simp only [dn] at hg52
       refine yfz 1 underlying69 sizeOf23 ?_
       refine yl st 2 isAgg23 ?_
       refine yfz 1 underlying69 sizeOf23 ?_
       refine yl st 3 isAgg23 ?_
       refine vc_e (e_call [_, _] rfl rfl call44 rfl (rdeclsS_any x.locals y.locals _ _ _ _ _ (RowC.kept htl (Same.of_nil st.chg)) (RowC.kept hul (Same.of_nil st.chg)) (by have := hkx.1.1; omega)) ?_)
       rintro _ w ⟨rfl, cw⟩
       replace st := st.call0 cw
       refine vy (y_not rfl) ?_
       refine ypf ?_
       refine vmb ?_ ?_
       ·intro hg60
        try simp only [dn] at hg60
        iterate 6 refine vsk ?_
        refine ypt ?_
        refine vc_end (vq_then (vk5 2 3 33 34 67 ?_))
        refine vc_ift rfl ?_
        refine vc_seq (vc_region ?_)
        refine ya ?_
        refine vc_end (vq_then (vk1 4 (vc_ret (vq_block_ret (vq_then_ret (vq_then_ret (vq_block_ret (vq_then_ret ?_))))))))
        refine vq_ret1 st (.inl rfl) results14 (.tmp rfl) ?_
        refine ⟨_, rfl, ?_⟩
        refine ⟨?_, st.chg⟩
        clear st
        unfold sameP
        (rw [zipA_no (f := sameT) hx hy (by unfold sameT; simp_all)]; simp; done)
       ·intro hg60
        try simp only [dn] at hg60
        refine yfz 2 underlying69 sizeOf65 ?_
        refine yl st 2 isAgg65 ?_
        refine yfz 2 underlying69 sizeOf65 ?_
        refine yl st 3 isAgg65 ?_
        refine vc_e (e_call [_, _] rfl rfl call45 rfl (rstmtsS_any _ x.body rfl hkx.2.1 y.body _ _ _ _ _ (htb.kept (Same.of_nil st.chg)) (hub.kept (Same.of_nil st.chg))) ?_)
        rintro _ w ⟨rfl, cw⟩
        replace st := st.call0 cw
        refine vy (y_not rfl) ?_
        refine ypf ?_
        refine vc_end (vq_then (vk5 2 3 33 34 67 ?_))
        refine vc_ifs rfl ?_ ?_
        ·intro hc67
         try simp only [dn] at hc67
         refine vc_seq (vc_region ?_)
         refine ya ?_
         refine vc_end (vq_then (vk1 4 (vc_ret (vq_block_ret (vq_then_ret (vq_then_ret (vq_block_ret (vq_then_ret ?_))))))))
         refine vq_ret1 st (.inl rfl) results14 (.tmp rfl) ?_
         refine ⟨_, rfl, ?_⟩
         refine ⟨?_, st.chg⟩
         clear st
         unfold sameP
         (rw [zipA_no (f := sameT) hx hy (by unfold sameT; simp_all)]; simp; done)
        ·intro hc67
         try simp only [dn] at hc67
         refine vc_code_skip (vq_block (vq_then (vk4 2 3 33 34 (vc_region ?_))))
         refine vy (y_add rfl rfl (by omega : _ = ((j + 1 : Nat) : Int)) (by omega) (by omega)) ?_
         refine ym ?_
         refine vc_end ?_
         refine vq_again (j + 1)  ⟨rfl, rfl, rfl, rfl, trivial⟩ (st.pick [0, 1] rfl (by decide)) ?_ ?_
         ·exact ⟨by omega, fun i x' y' hi h1 h2 => by
            rcases (by omega : i < j ∨ i = j) with h | rfl
            · exact hall i x' y' h h1 h2
            · rw [hx] at h1; rw [hy] at h2; cases h1; cases h2; (unfold sameT; clear st; simp_all)⟩
         ·omega
    ·intro hc35
     try simp only [dn] at hc35
     refine vc_exit (vq_then_exit (vq_then_exit (vq_block_exit (vq_then (vc_keep [] trivial (vc_seq (vc_region ?_)))))))
     refine ya ?_
     refine vc_end (vq_then (vk1 4 (vc_ret ?_)))
     refine vq_ret1 st (.inl rfl) results14 (.tmp rfl) ?_
     refine ⟨_, rfl, ?_⟩
     refine ⟨?_, st.chg⟩
     clear st
     unfold sameP
     (rw [‹zipA sameD p.shared q.shared = true›, ‹zipA sameD p.locks q.locks = true›, zipA_yes (by omega) fun i x y hi h1 h2 => hall i x y (by omega) h1 h2]; rfl)

end
end Go.Proofs.YtnmhlpnapgojjaaGreatDoor


/- The engine, eighteenth part: trees whose rows lie each in a block of its own. -/
namespace Sx
open Go Go.RowKit

def obk : Option Addr → List Nat | some a => [a.block] | none => []
theorem obk_own {oa : Option Addr} {n cap : Nat} : (Value.slice oa n cap).ownBlock.toList = obk oa := by cases oa <;> rfl
theorem owns_kept {w w' : World} {base E size n : Nat} {oa : Option Addr} {m cap : Nat} {xs : List Value} (h : w.ownsRow base E size (.slice oa m cap) n xs) (hk : ∀ b ∈ obk oa, w'.heap[b]? = w.heap[b]?) : w'.ownsRow base E size (.slice oa m cap) n xs := by
  refine ⟨h.1, h.2.imp id fun ⟨g, c, cur, e, hb, hc, hr⟩ => ⟨g, c, cur, e, hb, ?_, hr⟩⟩
  simp only [Value.slice.injEq] at e
  rw [hk g (by rw [e.1]; simp [obk])]; exact hc
theorem owns_lt {w : World} {base E size n : Nat} {oa : Option Addr} {m cap : Nat} {xs : List Value} (h : w.ownsRow base E size (.slice oa m cap) n xs) : ∀ b ∈ obk oa, base ≤ b ∧ b < w.heap.size := by
  intro b hb
  rw [← obk_own (n := m) (cap := cap)] at hb
  exact World.ownsRow.lt h b (by simpa using hb)
theorem owns_mono {w : World} {base base' E size n : Nat} {v : Value} {xs : List Value} (h : w.ownsRow base E size v n xs) (hb : ∀ b, v.ownBlock = some b → base' ≤ b) : w.ownsRow base' E size v n xs :=
  ⟨h.1, h.2.imp id fun ⟨g, c, cur, e, hg, hr⟩ => ⟨g, c, cur, e, hb g (by rw [e]; rfl), hr⟩⟩

section
variable (tE tS tD tT : Nat)
mutual
/-- an expression's cells, and the blocks that its kids lie in -/
def ExS (w : World) : Ex → List Value → List Nat → Prop
  | .mk k op wd nm kids a, l, S => ∃ oa cap xs S', l = [.int .u8 k, .int .u8 op, .int .i64 wd, str nm, .slice oa kids.length cap, .int .i64 a] ∧ w.ownsRow 0 tE 6 (.slice oa kids.length cap) kids.length xs ∧ S = obk oa ++ S' ∧ ExSs w kids xs S'
termination_by structural e => e
def ExSs (w : World) : List Ex → List Value → List Nat → Prop
  | [], xs, S => xs = [] ∧ S = []
  | e :: r, xs, S => ∃ v S1 xr Sr, xs = v ++ xr ∧ S = S1 ++ Sr ∧ ExS w e v S1 ∧ ExSs w r xr Sr
termination_by structural l => l
end
def ExR (w : World) (oa : Option Addr) (cap : Nat) (es : List Ex) (S : List Nat) : Prop := ∃ xs S', w.ownsRow 0 tE 6 (.slice oa es.length cap) es.length xs ∧ S = obk oa ++ S' ∧ ExSs tE w es xs S'
mutual
def SmS (w : World) : Sm → List Value → List Nat → Prop
  | .mk k nm other e body els a, l, S => ∃ oe ce ob cb ol cl Se xb Sb xl Sl, l = [.int .u8 k, str nm, str other, .slice oe e.length ce, .slice ob body.length cb, .slice ol els.length cl, .int .i64 a] ∧ ExR tE w oe ce e Se ∧
      w.ownsRow 0 tS 7 (.slice ob body.length cb) body.length xb ∧ SmSs w body xb Sb ∧ w.ownsRow 0 tS 7 (.slice ol els.length cl) els.length xl ∧ SmSs w els xl Sl ∧ S = Se ++ ((obk ob ++ Sb) ++ (obk ol ++ Sl))
termination_by structural s => s
def SmSs (w : World) : List Sm → List Value → List Nat → Prop
  | [], xs, S => xs = [] ∧ S = []
  | s :: r, xs, S => ∃ v S1 xr Sr, xs = v ++ xr ∧ S = S1 ++ Sr ∧ SmS w s v S1 ∧ SmSs w r xr Sr
termination_by structural l => l
end
def SmR (w : World) (oa : Option Addr) (cap : Nat) (ss : List Sm) (S : List Nat) : Prop := ∃ xs S', w.ownsRow 0 tS 7 (.slice oa ss.length cap) ss.length xs ∧ S = obk oa ++ S' ∧ SmSs tE tS w ss xs S'
def DcR (w : World) (oa : Option Addr) (cap : Nat) (ds : List Dc) (S : List Nat) : Prop := w.ownsRow 0 tD 3 (.slice oa ds.length cap) ds.length (ds.flatMap dcL) ∧ S = obk oa
def ThS (w : World) (t : Th) (l : List Value) (S : List Nat) : Prop := ∃ ol cl ob cb Sl Sb, l = [str t.nm, .slice ol t.locals.length cl, .slice ob t.body.length cb, .int .i64 t.a] ∧ DcR tD w ol cl t.locals Sl ∧ SmR tE tS w ob cb t.body Sb ∧ S = Sl ++ Sb
def ThSs (w : World) : List Th → List Value → List Nat → Prop
  | [], xs, S => xs = [] ∧ S = []
  | t :: r, xs, S => ∃ v S1 xr Sr, xs = v ++ xr ∧ S = S1 ++ Sr ∧ ThS tE tS tD w t v S1 ∧ ThSs w r xr Sr
def ThR (w : World) (oa : Option Addr) (cap : Nat) (ts : List Th) (S : List Nat) : Prop := ∃ xs S', w.ownsRow 0 tT 4 (.slice oa ts.length cap) ts.length xs ∧ S = obk oa ++ S' ∧ ThSs tE tS tD w ts xs S'
def PgS (w : World) (p : Pg) (l : List Value) (S : List Nat) : Prop := ∃ os cs ol cl ot ct Ss Sl St, l = [.slice os p.shared.length cs, .slice ol p.locks.length cl, .slice ot p.threads.length ct] ∧ DcR tD w os cs p.shared Ss ∧ DcR tD w ol cl p.locks Sl ∧ ThR tE tS tD tT w ot ct p.threads St ∧ S = Ss ++ (Sl ++ St)
end

section
variable {tE tS tD tT : Nat} {w w' : World}
theorem ExS_iff {e : Ex} {l : List Value} {S : List Nat} : ExS tE w e l S ↔ ∃ oa cap, l = [.int .u8 e.k, .int .u8 e.op, .int .i64 e.wd, str e.nm, .slice oa e.kids.length cap, .int .i64 e.a] ∧ ExR tE w oa cap e.kids S := by
  cases e with
  | mk k op wd nm kids a =>
    rw [ExS]
    constructor
    · rintro ⟨oa, cap, xs, S', h1, h2, h3, h4⟩
      exact ⟨oa, cap, h1, xs, S', h2, h3, h4⟩
    · rintro ⟨oa, cap, h1, xs, S', h2, h3, h4⟩
      exact ⟨oa, cap, xs, S', h1, h2, h3, h4⟩
theorem SmS_iff {s : Sm} {l : List Value} {S : List Nat} : SmS tE tS w s l S ↔ ∃ oe ce ob cb ol cl Se Sb Sl, l = [.int .u8 s.k, str s.nm, str s.other, .slice oe s.e.length ce, .slice ob s.body.length cb, .slice ol s.els.length cl, .int .i64 s.a] ∧
    ExR tE w oe ce s.e Se ∧ SmR tE tS w ob cb s.body Sb ∧ SmR tE tS w ol cl s.els Sl ∧ S = Se ++ (Sb ++ Sl) := by
  cases s with
  | mk k nm other e body els a =>
    rw [SmS]
    constructor
    · rintro ⟨oe, ce, ob, cb, ol, cl, Se, xb, Sb, xl, Sl, h1, h2, h3, h4, h5, h6, h7⟩
      exact ⟨oe, ce, ob, cb, ol, cl, Se, _, _, h1, h2, ⟨xb, Sb, h3, rfl, h4⟩, ⟨xl, Sl, h5, rfl, h6⟩, h7⟩
    · rintro ⟨oe, ce, ob, cb, ol, cl, Se, _, _, h1, h2, ⟨xb, Sb, h3, rfl, h4⟩, ⟨xl, Sl, h5, rfl, h6⟩, h7⟩
      exact ⟨oe, ce, ob, cb, ol, cl, Se, xb, Sb, xl, Sl, h1, h2, h3, h4, h5, h6, h7⟩
theorem ExS.len {e : Ex} {l : List Value} {S : List Nat} (h : ExS tE w e l S) : l.length = 6 := by obtain ⟨oa, cap, rfl, _⟩ := ExS_iff.1 h; rfl
theorem SmS.len {s : Sm} {l : List Value} {S : List Nat} (h : SmS tE tS w s l S) : l.length = 7 := by obtain ⟨oe, ce, ob, cb, ol, cl, Se, Sb, Sl, rfl, _⟩ := SmS_iff.1 h; rfl
theorem ThS.len {t : Th} {l : List Value} {S : List Nat} (h : ThS tE tS tD w t l S) : l.length = 4 := by obtain ⟨ol, cl, ob, cb, Sl, Sb, rfl, _⟩ := h; rfl
/-! ### what is apart stays -/
mutual
theorem ExS.kept : ∀ {e : Ex} {l : List Value} {S : List Nat}, ExS tE w e l S → (∀ b ∈ S, w'.heap[b]? = w.heap[b]?) → ExS tE w' e l S
  | .mk k op wd nm kids a, l, S, h, hk => by
    rw [ExS] at h ⊢
    obtain ⟨oa, cap, xs, S', h1, h2, rfl, h4⟩ := h
    exact ⟨oa, cap, xs, S', h1, owns_kept h2 (fun b hb => hk b (List.mem_append.2 (.inl hb))), rfl, ExSs.kept h4 (fun b hb => hk b (List.mem_append.2 (.inr hb)))⟩
termination_by structural e => e
theorem ExSs.kept : ∀ {es : List Ex} {xs : List Value} {S : List Nat}, ExSs tE w es xs S → (∀ b ∈ S, w'.heap[b]? = w.heap[b]?) → ExSs tE w' es xs S
  | [], xs, S, h, hk => by rw [ExSs] at h ⊢; exact h
  | e :: r, xs, S, h, hk => by
    rw [ExSs] at h ⊢
    obtain ⟨v, S1, xr, Sr, rfl, rfl, h1, h2⟩ := h
    exact ⟨v, S1, xr, Sr, rfl, rfl, ExS.kept h1 (fun b hb => hk b (List.mem_append.2 (.inl hb))), ExSs.kept h2 (fun b hb => hk b (List.mem_append.2 (.inr hb)))⟩
termination_by structural es => es
end
theorem ExR.kept {oa : Option Addr} {cap : Nat} {es : List Ex} {S : List Nat} (h : ExR tE w oa cap es S) (hk : ∀ b ∈ S, w'.heap[b]? = w.heap[b]?) : ExR tE w' oa cap es S := by
  obtain ⟨xs, S', h1, rfl, h3⟩ := h
  exact ⟨xs, S', owns_kept h1 (fun b hb => hk b (List.mem_append.2 (.inl hb))), rfl, ExSs.kept h3 (fun b hb => hk b (List.mem_append.2 (.inr hb)))⟩
mutual
theorem SmS.kept : ∀ {e : Sm} {l : List Value} {S : List Nat}, SmS tE tS w e l S → (∀ b ∈ S, w'.heap[b]? = w.heap[b]?) → SmS tE tS w' e l S
  | .mk k nm other e body els a, l, S, h, hk => by
    rw [SmS] at h ⊢
    obtain ⟨oe, ce, ob, cb, ol, cl, Se, xb, Sb, xl, Sl, h1, h2, h3, h4, h5, h6, rfl⟩ := h
    exact ⟨oe, ce, ob, cb, ol, cl, Se, xb, Sb, xl, Sl, h1, h2.kept (fun b hb => hk b (by simp [hb])), owns_kept h3 (fun b hb => hk b (by simp [hb])), SmSs.kept h4 (fun b hb => hk b (by simp [hb])),
      owns_kept h5 (fun b hb => hk b (by simp [hb])), SmSs.kept h6 (fun b hb => hk b (by simp [hb])), rfl⟩
termination_by structural e => e
theorem SmSs.kept : ∀ {es : List Sm} {xs : List Value} {S : List Nat}, SmSs tE tS w es xs S → (∀ b ∈ S, w'.heap[b]? = w.heap[b]?) → SmSs tE tS w' es xs S
  | [], xs, S, h, hk => by rw [SmSs] at h ⊢; exact h
  | e :: r, xs, S, h, hk => by
    rw [SmSs] at h ⊢
    obtain ⟨v, S1, xr, Sr, rfl, rfl, h1, h2⟩ := h
    exact ⟨v, S1, xr, Sr, rfl, rfl, SmS.kept h1 (fun b hb => hk b (List.mem_append.2 (.inl hb))), SmSs.kept h2 (fun b hb => hk b (List.mem_append.2 (.inr hb)))⟩
termination_by structural es => es
end
theorem SmR.kept {oa : Option Addr} {cap : Nat} {es : List Sm} {S : List Nat} (h : SmR tE tS w oa cap es S) (hk : ∀ b ∈ S, w'.heap[b]? = w.heap[b]?) : SmR tE tS w' oa cap es S := by
  obtain ⟨xs, S', h1, rfl, h3⟩ := h
  exact ⟨xs, S', owns_kept h1 (fun b hb => hk b (List.mem_append.2 (.inl hb))), rfl, SmSs.kept h3 (fun b hb => hk b (List.mem_append.2 (.inr hb)))⟩
theorem DcR.kept {oa : Option Addr} {cap : Nat} {es : List Dc} {S : List Nat} (h : DcR tD w oa cap es S) (hk : ∀ b ∈ S, w'.heap[b]? = w.heap[b]?) : DcR tD w' oa cap es S := by
  obtain ⟨h1, rfl⟩ := h
  exact ⟨owns_kept h1 hk, rfl⟩
theorem ThS.kept {t : Th} {l : List Value} {S : List Nat} (h : ThS tE tS tD w t l S) (hk : ∀ b ∈ S, w'.heap[b]? = w.heap[b]?) : ThS tE tS tD w' t l S := by
  obtain ⟨ol, cl, ob, cb, Sl, Sb, h1, h2, h3, rfl⟩ := h
  exact ⟨ol, cl, ob, cb, Sl, Sb, h1, h2.kept (fun b hb => hk b (List.mem_append.2 (.inl hb))), h3.kept (fun b hb => hk b (List.mem_append.2 (.inr hb))), rfl⟩
theorem ThSs.kept : ∀ {es : List Th} {xs : List Value} {S : List Nat}, ThSs tE tS tD w es xs S → (∀ b ∈ S, w'.heap[b]? = w.heap[b]?) → ThSs tE tS tD w' es xs S
  | [], xs, S, h, hk => by rw [ThSs] at h ⊢; exact h
  | e :: r, xs, S, h, hk => by
    rw [ThSs] at h ⊢
    obtain ⟨v, S1, xr, Sr, rfl, rfl, h1, h2⟩ := h
    exact ⟨v, S1, xr, Sr, rfl, rfl, h1.kept (fun b hb => hk b (List.mem_append.2 (.inl hb))), ThSs.kept h2 (fun b hb => hk b (List.mem_append.2 (.inr hb)))⟩
theorem ThR.kept {oa : Option Addr} {cap : Nat} {es : List Th} {S : List Nat} (h : ThR tE tS tD tT w oa cap es S) (hk : ∀ b ∈ S, w'.heap[b]? = w.heap[b]?) : ThR tE tS tD tT w' oa cap es S := by
  obtain ⟨xs, S', h1, rfl, h3⟩ := h
  exact ⟨xs, S', owns_kept h1 (fun b hb => hk b (List.mem_append.2 (.inl hb))), rfl, ThSs.kept h3 (fun b hb => hk b (List.mem_append.2 (.inr hb)))⟩
theorem PgS.kept {p : Pg} {l : List Value} {S : List Nat} (h : PgS tE tS tD tT w p l S) (hk : ∀ b ∈ S, w'.heap[b]? = w.heap[b]?) : PgS tE tS tD tT w' p l S := by
  obtain ⟨os, cs, ol, cl, ot, ct, Ss, Sl, St, h1, h2, h3, h4, rfl⟩ := h
  exact ⟨os, cs, ol, cl, ot, ct, Ss, Sl, St, h1, h2.kept (fun b hb => hk b (by simp [hb])), h3.kept (fun b hb => hk b (by simp [hb])), h4.kept (fun b hb => hk b (by simp [hb])), rfl⟩

/-! ### the blocks are there -/
mutual
theorem ExS.lt : ∀ {e : Ex} {l : List Value} {S : List Nat}, ExS tE w e l S → ∀ b ∈ S, b < w.heap.size
  | .mk k op wd nm kids a, l, S, h, b, hb => by
    rw [ExS] at h
    obtain ⟨oa, cap, xs, S', h1, h2, rfl, h4⟩ := h
    rcases List.mem_append.1 hb with hb | hb
    · exact (owns_lt h2 b hb).2
    · exact ExSs.lt h4 b hb
termination_by structural e => e
theorem ExSs.lt : ∀ {es : List Ex} {xs : List Value} {S : List Nat}, ExSs tE w es xs S → ∀ b ∈ S, b < w.heap.size
  | [], xs, S, h, b, hb => by rw [ExSs] at h; rw [h.2] at hb; cases hb
  | e :: r, xs, S, h, b, hb => by
    rw [ExSs] at h
    obtain ⟨v, S1, xr, Sr, rfl, rfl, h1, h2⟩ := h
    rcases List.mem_append.1 hb with hb | hb
    · exact ExS.lt h1 b hb
    · exact ExSs.lt h2 b hb
termination_by structural es => es
end
theorem ExR.lt {oa : Option Addr} {cap : Nat} {es : List Ex} {S : List Nat} (h : ExR tE w oa cap es S) : ∀ b ∈ S, b < w.heap.size := by
  obtain ⟨xs, S', h1, rfl, h3⟩ := h
  intro b hb
  rcases List.mem_append.1 hb with hb | hb
  · exact (owns_lt h1 b hb).2
  · exact ExSs.lt h3 b hb
mutual
theorem SmS.lt : ∀ {e : Sm} {l : List Value} {S : List Nat}, SmS tE tS w e l S → ∀ b ∈ S, b < w.heap.size
  | .mk k nm other e body els a, l, S, h, b, hb => by
    rw [SmS] at h
    obtain ⟨oe, ce, ob, cb, ol, cl, Se, xb, Sb, xl, Sl, h1, h2, h3, h4, h5, h6, rfl⟩ := h
    simp only [List.mem_append] at hb
    rcases hb with hb | (hb | hb) | (hb | hb)
    · exact h2.lt b hb
    · exact (owns_lt h3 b hb).2
    · exact SmSs.lt h4 b hb
    · exact (owns_lt h5 b hb).2
    · exact SmSs.lt h6 b hb
termination_by structural e => e
theorem SmSs.lt : ∀ {es : List Sm} {xs : List Value} {S : List Nat}, SmSs tE tS w es xs S → ∀ b ∈ S, b < w.heap.size
  | [], xs, S, h, b, hb => by rw [SmSs] at h; rw [h.2] at hb; cases hb
  | e :: r, xs, S, h, b, hb => by
    rw [SmSs] at h
    obtain ⟨v, S1, xr, Sr, rfl, rfl, h1, h2⟩ := h
    rcases List.mem_append.1 hb with hb | hb
    · exact SmS.lt h1 b hb
    · exact SmSs.lt h2 b hb
termination_by structural es => es
end
theorem SmR.lt {oa : Option Addr} {cap : Nat} {es : List Sm} {S : List Nat} (h : SmR tE tS w oa cap es S) : ∀ b ∈ S, b < w.heap.size := by
  obtain ⟨xs, S', h1, rfl, h3⟩ := h
  intro b hb
  rcases List.mem_append.1 hb with hb | hb
  · exact (owns_lt h1 b hb).2
  · exact SmSs.lt h3 b hb
theorem DcR.lt {oa : Option Addr} {cap : Nat} {es : List Dc} {S : List Nat} (h : DcR tD w oa cap es S) : ∀ b ∈ S, b < w.heap.size := by
  obtain ⟨h1, rfl⟩ := h
  exact fun b hb => (owns_lt h1 b hb).2
theorem ThS.lt {t : Th} {l : List Value} {S : List Nat} (h : ThS tE tS tD w t l S) : ∀ b ∈ S, b < w.heap.size := by
  obtain ⟨ol, cl, ob, cb, Sl, Sb, h1, h2, h3, rfl⟩ := h
  intro b hb
  rcases List.mem_append.1 hb with hb | hb
  · exact h2.lt b hb
  · exact h3.lt b hb
theorem ThSs.lt : ∀ {es : List Th} {xs : List Value} {S : List Nat}, ThSs tE tS tD w es xs S → ∀ b ∈ S, b < w.heap.size
  | [], xs, S, h, b, hb => by rw [ThSs] at h; rw [h.2] at hb; cases hb
  | e :: r, xs, S, h, b, hb => by
    rw [ThSs] at h
    obtain ⟨v, S1, xr, Sr, rfl, rfl, h1, h2⟩ := h
    rcases List.mem_append.1 hb with hb | hb
    · exact h1.lt b hb
    · exact ThSs.lt h2 b hb
theorem ThR.lt {oa : Option Addr} {cap : Nat} {es : List Th} {S : List Nat} (h : ThR tE tS tD tT w oa cap es S) : ∀ b ∈ S, b < w.heap.size := by
  obtain ⟨xs, S', h1, rfl, h3⟩ := h
  intro b hb
  rcases List.mem_append.1 hb with hb | hb
  · exact (owns_lt h1 b hb).2
  · exact ThSs.lt h3 b hb
theorem PgS.lt {p : Pg} {l : List Value} {S : List Nat} (h : PgS tE tS tD tT w p l S) : ∀ b ∈ S, b < w.heap.size := by
  obtain ⟨os, cs, ol, cl, ot, ct, Ss, Sl, St, h1, h2, h3, h4, rfl⟩ := h
  intro b hb
  simp only [List.mem_append] at hb
  rcases hb with hb | hb | hb
  · exact h2.lt b hb
  · exact h3.lt b hb
  · exact h4.lt b hb

/-! ### lists of them -/
theorem ExSs_app : ∀ {a b : List Ex} {xs : List Value} {S : List Nat}, ExSs tE w (a ++ b) xs S ↔ ∃ xa xb Sa Sb, xs = xa ++ xb ∧ S = Sa ++ Sb ∧ ExSs tE w a xa Sa ∧ ExSs tE w b xb Sb
  | [], b, xs, S => by
    simp only [List.nil_append, ExSs]
    constructor
    · intro h; exact ⟨[], xs, [], S, rfl, rfl, ⟨rfl, rfl⟩, h⟩
    · rintro ⟨xa, xb, Sa, Sb, rfl, rfl, ⟨rfl, rfl⟩, h⟩; exact h
  | e :: r, b, xs, S => by
    simp only [List.cons_append, ExSs]
    constructor
    · rintro ⟨v, S1, xr, Sr, rfl, rfl, h1, h2⟩
      obtain ⟨xa, xb, Sa, Sb, rfl, rfl, h3, h4⟩ := ExSs_app.1 h2
      exact ⟨v ++ xa, xb, S1 ++ Sa, Sb, by simp, by simp, ⟨v, S1, xa, Sa, rfl, rfl, h1, h3⟩, h4⟩
    · rintro ⟨_, xb, _, Sb, rfl, rfl, ⟨v, S1, xa, Sa, rfl, rfl, h1, h3⟩, h4⟩
      exact ⟨v, S1, xa ++ xb, Sa ++ Sb, by simp, by simp, h1, ExSs_app.2 ⟨xa, xb, Sa, Sb, rfl, rfl, h3, h4⟩⟩
theorem SmSs_app : ∀ {a b : List Sm} {xs : List Value} {S : List Nat}, SmSs tE tS w (a ++ b) xs S ↔ ∃ xa xb Sa Sb, xs = xa ++ xb ∧ S = Sa ++ Sb ∧ SmSs tE tS w a xa Sa ∧ SmSs tE tS w b xb Sb
  | [], b, xs, S => by
    simp only [List.nil_append, SmSs]
    constructor
    · intro h; exact ⟨[], xs, [], S, rfl, rfl, ⟨rfl, rfl⟩, h⟩
    · rintro ⟨xa, xb, Sa, Sb, rfl, rfl, ⟨rfl, rfl⟩, h⟩; exact h
  | e :: r, b, xs, S => by
    simp only [List.cons_append, SmSs]
    constructor
    · rintro ⟨v, S1, xr, Sr, rfl, rfl, h1, h2⟩
      obtain ⟨xa, xb, Sa, Sb, rfl, rfl, h3, h4⟩ := SmSs_app.1 h2
      exact ⟨v ++ xa, xb, S1 ++ Sa, Sb, by simp, by simp, ⟨v, S1, xa, Sa, rfl, rfl, h1, h3⟩, h4⟩
    · rintro ⟨_, xb, _, Sb, rfl, rfl, ⟨v, S1, xa, Sa, rfl, rfl, h1, h3⟩, h4⟩
      exact ⟨v, S1, xa ++ xb, Sa ++ Sb, by simp, by simp, h1, SmSs_app.2 ⟨xa, xb, Sa, Sb, rfl, rfl, h3, h4⟩⟩
theorem ThSs_app : ∀ {a b : List Th} {xs : List Value} {S : List Nat}, ThSs tE tS tD w (a ++ b) xs S ↔ ∃ xa xb Sa Sb, xs = xa ++ xb ∧ S = Sa ++ Sb ∧ ThSs tE tS tD w a xa Sa ∧ ThSs tE tS tD w b xb Sb
  | [], b, xs, S => by
    simp only [List.nil_append, ThSs]
    constructor
    · intro h; exact ⟨[], xs, [], S, rfl, rfl, ⟨rfl, rfl⟩, h⟩
    · rintro ⟨xa, xb, Sa, Sb, rfl, rfl, ⟨rfl, rfl⟩, h⟩; exact h
  | e :: r, b, xs, S => by
    simp only [List.cons_append, ThSs]
    constructor
    · rintro ⟨v, S1, xr, Sr, rfl, rfl, h1, h2⟩
      obtain ⟨xa, xb, Sa, Sb, rfl, rfl, h3, h4⟩ := ThSs_app.1 h2
      exact ⟨v ++ xa, xb, S1 ++ Sa, Sb, by simp, by simp, ⟨v, S1, xa, Sa, rfl, rfl, h1, h3⟩, h4⟩
    · rintro ⟨_, xb, _, Sb, rfl, rfl, ⟨v, S1, xa, Sa, rfl, rfl, h1, h3⟩, h4⟩
      exact ⟨v, S1, xa ++ xb, Sa ++ Sb, by simp, by simp, h1, ThSs_app.2 ⟨xa, xb, Sa, Sb, rfl, rfl, h3, h4⟩⟩
theorem ExSs_one {e : Ex} {xs : List Value} {S : List Nat} : ExSs tE w [e] xs S ↔ ExS tE w e xs S := by
  simp only [ExSs]
  constructor
  · rintro ⟨v, S1, xr, Sr, rfl, rfl, h1, rfl, rfl⟩; simpa using h1
  · intro h; exact ⟨xs, S, [], [], by simp, by simp, h, rfl, rfl⟩
theorem SmSs_one {e : Sm} {xs : List Value} {S : List Nat} : SmSs tE tS w [e] xs S ↔ SmS tE tS w e xs S := by
  simp only [SmSs]
  constructor
  · rintro ⟨v, S1, xr, Sr, rfl, rfl, h1, rfl, rfl⟩; simpa using h1
  · intro h; exact ⟨xs, S, [], [], by simp, by simp, h, rfl, rfl⟩
theorem ThSs_one {e : Th} {xs : List Value} {S : List Nat} : ThSs tE tS tD w [e] xs S ↔ ThS tE tS tD w e xs S := by
  simp only [ThSs]
  constructor
  · rintro ⟨v, S1, xr, Sr, rfl, rfl, h1, rfl, rfl⟩; simpa using h1
  · intro h; exact ⟨xs, S, [], [], by simp, by simp, h, rfl, rfl⟩
theorem SmSs.snoc {a : List Sm} {e : Sm} {xs l : List Value} {S S1 : List Nat} (h : SmSs tE tS w a xs S) (h1 : SmS tE tS w e l S1) : SmSs tE tS w (a ++ [e]) (xs ++ l) (S ++ S1) := SmSs_app.2 ⟨xs, l, S, S1, rfl, rfl, h, SmSs_one.2 h1⟩
theorem ThSs.snoc {a : List Th} {e : Th} {xs l : List Value} {S S1 : List Nat} (h : ThSs tE tS tD w a xs S) (h1 : ThS tE tS tD w e l S1) : ThSs tE tS tD w (a ++ [e]) (xs ++ l) (S ++ S1) := ThSs_app.2 ⟨xs, l, S, S1, rfl, rfl, h, ThSs_one.2 h1⟩
theorem ThSs.get : ∀ {es : List Th} {xs : List Value} {S : List Nat} {j : Nat} {e : Th}, ThSs tE tS tD w es xs S → es[j]? = some e → ∃ Sj, ThS tE tS tD w e ((xs.drop (j * 4)).take 4) Sj ∧ ∀ b ∈ Sj, b ∈ S
  | [], xs, S, j, e, h, hj => by simp at hj
  | x :: r, xs, S, 0, e, h, hj => by
    rw [ThSs] at h
    obtain ⟨v, S1, xr, Sr, rfl, rfl, h1, h2⟩ := h
    simp only [List.getElem?_cons_zero, Option.some.injEq] at hj
    subst hj
    refine ⟨S1, ?_, fun b hb => List.mem_append.2 (.inl hb)⟩
    simpa [List.take_append_of_le_length, List.take_of_length_le, h1.len] using h1
  | x :: r, xs, S, j + 1, e, h, hj => by
    rw [ThSs] at h
    obtain ⟨v, S1, xr, Sr, rfl, rfl, h1, h2⟩ := h
    obtain ⟨Sj, h3, h4⟩ := ThSs.get h2 (by simpa using hj)
    refine ⟨Sj, ?_, fun b hb => List.mem_append.2 (.inr (h4 b hb))⟩
    rw [show (j + 1) * 4 = v.length + j * 4 by rw [h1.len]; omega, ← List.drop_drop, List.drop_left]
    exact h3

/-! ### read as rows -/
theorem rowC_own {oa : Option Addr} {n cap E sz : Nat} {xs : List Value} {S : Nat → Prop} (h : w.ownsRow 0 E sz (.slice oa n cap) n xs) (hS : ∀ b ∈ obk oa, S b) : RowC w S sz oa n (fun j => (xs.drop (j * sz)).take sz) := by
  rcases Nat.eq_zero_or_pos n with h0 | h0
  · exact .inl h0
  · right
    obtain ⟨g, c, e, -⟩ := own_form h h0
    simp only [Value.slice.injEq] at e
    obtain ⟨rfl, -, rfl⟩ := e
    refine ⟨g, 0, rfl, hS g (by simp [obk]), (owns_lt h g (by simp [obk])).2, fun j hj => ⟨?_, fun i v hi => ?_⟩⟩
    · have h1 : xs.length = n * sz := h.1
      have h2 : j * sz + sz ≤ n * sz := by rw [← Nat.succ_mul]; exact Nat.mul_le_mul_right _ hj
      simp; omega
    · rw [List.getElem?_take] at hi
      split at hi
      · rw [List.getElem?_drop] at hi
        rw [Nat.zero_add]
        exact own_cell h hi
      · cases hi
mutual
theorem ExS.toV {T : Nat → Prop} : ∀ {e : Ex} {l : List Value} {S : List Nat}, ExS tE w e l S → (∀ b ∈ S, T b) → ExV w T e l
  | .mk k op wd nm kids a, l, S, h, hS => by
    rw [ExS] at h
    obtain ⟨oa, cap, xs, S', rfl, h2, rfl, h4⟩ := h
    refine .mk _ (rowC_own h2 fun b hb => hS b (List.mem_append.2 (.inl hb))) ?_
    exact ExSs.toV h4 (fun b hb => hS b (List.mem_append.2 (.inr hb)))
termination_by structural e => e
theorem ExSs.toV {T : Nat → Prop} : ∀ {es : List Ex} {xs : List Value} {S : List Nat}, ExSs tE w es xs S → (∀ b ∈ S, T b) → ∀ (j : Nat) x, es[j]? = some x → ExV w T x ((xs.drop (j * 6)).take 6)
  | [], xs, S, h, hS, j, x, hx => by simp at hx
  | e :: r, xs, S, h, hS, 0, x, hx => by
    rw [ExSs] at h
    obtain ⟨v, S1, xr, Sr, rfl, rfl, h1, h2⟩ := h
    simp only [List.getElem?_cons_zero, Option.some.injEq] at hx
    subst hx
    have := ExS.toV h1 (fun b hb => hS b (List.mem_append.2 (.inl hb)))
    simpa [List.take_append_of_le_length, List.take_of_length_le, h1.len] using this
  | e :: r, xs, S, h, hS, j + 1, x, hx => by
    rw [ExSs] at h
    obtain ⟨v, S1, xr, Sr, rfl, rfl, h1, h2⟩ := h
    have := ExSs.toV h2 (fun b hb => hS b (List.mem_append.2 (.inr hb))) j x (by simpa using hx)
    rw [show (j + 1) * 6 = v.length + j * 6 by rw [h1.len]; omega, ← List.drop_drop, List.drop_left]
    exact this
termination_by structural es => es
end
theorem ExR.toRow {T : Nat → Prop} {oa : Option Addr} {cap : Nat} {es : List Ex} {S : List Nat} (h : ExR tE w oa cap es S) (hS : ∀ b ∈ S, T b) : ExRow w T oa es := by
  obtain ⟨xs, S', h1, rfl, h3⟩ := h
  exact ⟨_, rowC_own h1 fun b hb => hS b (List.mem_append.2 (.inl hb)), ExSs.toV h3 (fun b hb => hS b (List.mem_append.2 (.inr hb)))⟩
mutual
theorem SmS.toV {T : Nat → Prop} : ∀ {e : Sm} {l : List Value} {S : List Nat}, SmS tE tS w e l S → (∀ b ∈ S, T b) → SmV w T e l
  | .mk k nm other e body els a, l, S, h, hS => by
    rw [SmS] at h
    obtain ⟨oe, ce, ob, cb, ol, cl, Se, xb, Sb, xl, Sl, rfl, h2, h3, h4, h5, h6, rfl⟩ := h
    exact .mk _ _ (h2.toRow fun b hb => hS b (by simp [hb])) (rowC_own h3 fun b hb => hS b (by simp [hb])) (SmSs.toV h4 fun b hb => hS b (by simp [hb])) (rowC_own h5 fun b hb => hS b (by simp [hb])) (SmSs.toV h6 fun b hb => hS b (by simp [hb]))
termination_by structural e => e
theorem SmSs.toV {T : Nat → Prop} : ∀ {es : List Sm} {xs : List Value} {S : List Nat}, SmSs tE tS w es xs S → (∀ b ∈ S, T b) → ∀ (j : Nat) x, es[j]? = some x → SmV w T x ((xs.drop (j * 7)).take 7)
  | [], xs, S, h, hS, j, x, hx => by simp at hx
  | e :: r, xs, S, h, hS, 0, x, hx => by
    rw [SmSs] at h
    obtain ⟨v, S1, xr, Sr, rfl, rfl, h1, h2⟩ := h
    simp only [List.getElem?_cons_zero, Option.some.injEq] at hx
    subst hx
    have := SmS.toV h1 (fun b hb => hS b (List.mem_append.2 (.inl hb)))
    simpa [List.take_append_of_le_length, List.take_of_length_le, h1.len] using this
  | e :: r, xs, S, h, hS, j + 1, x, hx => by
    rw [SmSs] at h
    obtain ⟨v, S1, xr, Sr, rfl, rfl, h1, h2⟩ := h
    have := SmSs.toV h2 (fun b hb => hS b (List.mem_append.2 (.inr hb))) j x (by simpa using hx)
    rw [show (j + 1) * 7 = v.length + j * 7 by rw [h1.len]; omega, ← List.drop_drop, List.drop_left]
    exact this
termination_by structural es => es
end
theorem SmR.toRow {T : Nat → Prop} {oa : Option Addr} {cap : Nat} {es : List Sm} {S : List Nat} (h : SmR tE tS w oa cap es S) (hS : ∀ b ∈ S, T b) : SmRow w T oa es := by
  obtain ⟨xs, S', h1, rfl, h3⟩ := h
  exact ⟨_, rowC_own h1 fun b hb => hS b (List.mem_append.2 (.inl hb)), SmSs.toV h3 (fun b hb => hS b (List.mem_append.2 (.inr hb)))⟩
theorem dcs_chunk : ∀ {ds : List Dc} {j : Nat} {d : Dc}, ds[j]? = some d → ((ds.flatMap dcL).drop (j * 3)).take 3 = dcL d
  | [], j, d, h => by simp at h
  | x :: r, 0, d, h => by
    simp only [List.getElem?_cons_zero, Option.some.injEq] at h
    subst h
    simp [dcL]
  | x :: r, j + 1, d, h => by
    rw [List.flatMap_cons, show (j + 1) * 3 = (dcL x).length + j * 3 by simp [dcL]; omega, ← List.drop_drop, List.drop_left]
    exact dcs_chunk (by simpa using h)
theorem DcR.toRow {T : Nat → Prop} {oa : Option Addr} {cap : Nat} {es : List Dc} {S : List Nat} (h : DcR tD w oa cap es S) (hS : ∀ b ∈ S, T b) : DcRow w T oa es := by
  obtain ⟨h1, rfl⟩ := h
  refine (rowC_own h1 hS).imp id fun ⟨b, off, e, hb, hl, hc⟩ => ⟨b, off, e, hb, hl, fun j hj => ?_⟩
  have := hc j hj
  dsimp only at this
  rw [dcs_chunk (List.getElem?_eq_getElem hj)] at this
  simpa only [List.getD, List.getElem?_eq_getElem hj, Option.getD_some] using this
theorem ThS.toV {T : Nat → Prop} {t : Th} {l : List Value} {S : List Nat} (h : ThS tE tS tD w t l S) (hS : ∀ b ∈ S, T b) : ThV w T t l := by
  obtain ⟨ol, cl, ob, cb, Sl, Sb, h1, h2, h3, rfl⟩ := h
  exact ⟨ol, cl, ob, cb, h1, h2.toRow fun b hb => hS b (by simp [hb]), h3.toRow fun b hb => hS b (by simp [hb])⟩
theorem ThSs.toV {T : Nat → Prop} {es : List Th} {xs : List Value} {S : List Nat} (h : ThSs tE tS tD w es xs S) (hS : ∀ b ∈ S, T b) (j : Nat) (x : Th) (hx : es[j]? = some x) : ThV w T x ((xs.drop (j * 4)).take 4) := by
  obtain ⟨Sj, h1, h2⟩ := h.get hx
  exact h1.toV fun b hb => hS b (h2 b hb)
theorem ThR.toRow {T : Nat → Prop} {oa : Option Addr} {cap : Nat} {es : List Th} {S : List Nat} (h : ThR tE tS tD tT w oa cap es S) (hS : ∀ b ∈ S, T b) : ThRow w T oa es := by
  obtain ⟨xs, S', h1, rfl, h3⟩ := h
  exact ⟨_, rowC_own h1 fun b hb => hS b (List.mem_append.2 (.inl hb)), h3.toV (fun b hb => hS b (List.mem_append.2 (.inr hb)))⟩
theorem PgS.toV {T : Nat → Prop} {p : Pg} {l : List Value} {S : List Nat} (h : PgS tE tS tD tT w p l S) (hS : ∀ b ∈ S, T b) : PgV w T p l := by
  obtain ⟨os, cs, ol, cl, ot, ct, Ss, Sl, St, h1, h2, h3, h4, rfl⟩ := h
  exact ⟨os, cs, ol, cl, ot, ct, h1, h2.toRow fun b hb => hS b (by simp [hb]), h3.toRow fun b hb => hS b (by simp [hb]), h4.toRow fun b hb => hS b (by simp [hb])⟩

/-! ### new trees, held -/
/-- the blocks are new since 'n', each is named once -/
def Nw (n : Nat) (S : List Nat) : Prop := S.Nodup ∧ ∀ b ∈ S, n ≤ b
theorem Nw.nil {n : Nat} : Nw n [] := ⟨List.nodup_nil, by simp⟩
theorem Nw.le {n m : Nat} {S : List Nat} (h : Nw n S) (hm : m ≤ n) : Nw m S := ⟨h.1, fun b hb => Nat.le_trans hm (h.2 b hb)⟩
theorem Nw.app {n : Nat} {S T : List Nat} (h : Nw n S) (k : Nw n T) (hd : ∀ b ∈ S, b ∉ T) : Nw n (S ++ T) := ⟨List.nodup_append.2 ⟨h.1, k.1, fun a ha b hb e => hd a ha (e ▸ hb)⟩, fun b hb => by
  rcases List.mem_append.1 hb with h1 | h1
  · exact h.2 b h1
  · exact k.2 b h1⟩
theorem Nw.left {n : Nat} {S T : List Nat} (h : Nw n (S ++ T)) : Nw n S := ⟨(List.nodup_append.1 h.1).1, fun b hb => h.2 b (List.mem_append.2 (.inl hb))⟩
theorem Nw.right {n : Nat} {S T : List Nat} (h : Nw n (S ++ T)) : Nw n T := ⟨(List.nodup_append.1 h.1).2.1, fun b hb => h.2 b (List.mem_append.2 (.inr hb))⟩
/-- what hangs on the blocks 'S' alone -/
theorem loc_of {S : List Nat} {φ : World → Prop} (h : ∀ w w', φ w → (∀ b ∈ S, w'.heap[b]? = w.heap[b]?) → φ w') : Loc S φ := fun a b _ hk hp => h a b hp hk
theorem holds_of {base : Nat} {S : List Nat} {φ : World → Prop} (h : φ w) (hlt : ∀ b ∈ S, b < w.heap.size) (hk : ∀ w w', φ w → (∀ b ∈ S, w'.heap[b]? = w.heap[b]?) → φ w') : (Res.tree S φ).holds base w := ⟨h, hlt, loc_of hk⟩
end
end Sx


/- The engine, nineteenth part: rows of another's copied; new trees put together. -/
namespace Sx
open Go Go.RowKit
section
variable {w0 w w' : World} {M : List Nat} {hs : List Res}
variable {P : Program} {n : Fr} {L : List Oper} {Q : Exit → Act → World → Prop} {kn : Kn} {N : Act → World → Prop}
variable {d ty : Nat} {pos : String} {aft : Array Edge} {g : Option (Nat × Bool)}
/-- a row that can be read, or an empty one -/
def RdRowC (w : World) (oa : Option Addr) (l : List Value) : Prop := l = [] ∨ ∃ a, oa = some a ∧ ∀ k u, l[k]? = some u → w.cell? (a.add k) = some u
theorem run_append_none' (base : Nat) (t ty e : TypeId) (i : TypeInfo) (size c : Nat) (ht : P.underlying t = some (.slice e)) (hi : P.info? e = some i) (v : Value) (n : Nat) (xs : List Value) (hown : w.ownsRow base e size v n xs) :
    (Builtin.append_ #[t, t] ty #[v, .slice none 0 c]).run P w = .ok v w := by
  rcases hown.2 with ⟨rfl, rfl⟩ | ⟨g, cap, cur, rfl, _, _, hnc, _⟩
  · simp [Builtin.append_, run_underlying ht, Go.sizeOf, typeInfo, hi, Builtin.lenOf, Builtin.firstCells]
  · simp [Builtin.append_, run_underlying ht, Go.sizeOf, typeInfo, hi, Builtin.lenOf, Builtin.firstCells, hnc, storeCells]
theorem e_appr (st : St w0 M hs w) (i : Nat) {T E size bytes m len c : Nat} {x y : Operand} {v z : Value} {oa : Option Addr} {xs l : List Value} {ti : TypeInfo} (hw : gd L kn g = some true) (hd : okDst n (some d) = true)
    (hx : evO kn x = some v) (hy : evO kn y = some (.slice oa m c)) (hi : nth hs i = some (.own v E size len xs)) (hsrc : RdRowC w oa l)
    (ht : P.underlying T = some (.slice E)) (hinfo : P.info? E = some ti) (hz : ti.zero = some z) (hsize : ti.size = size) (hby : ti.bytes = bytes) (hzs : z.cells.size = size) (hsz : Nat.blt 0 size = true)
    (hl : l.length = m * size) (h1 : ∀ u ∈ l, u.oneCell' = true) (h63 : len + m ≤ maxLen) (hbytes : (len + m) * bytes ≤ 140737488355328) {len' : Nat} {ys : List Value} (hlen' : len + m = len') (hys : xs ++ l = ys)
    (next : ∀ oa cap w', St w0 M (setNth hs i (.own (.slice oa len' cap) E size len' ys)) w' → vN n N ((d, .slice oa len' cap) :: kn) w') :
    vS P n L Q ⟨some d, .call ⟨.builtin .append, #[x, y], #[T, T]⟩, ty, pos, aft, g⟩ N kn w := by
  subst hlen' hys
  have hsz' : 0 < size := by simpa [Nat.blt_eq] using hsz
  have hown0 : w.ownsRow w0.heap.size E size v len xs := st.res hi
  obtain ⟨v', w', hr, hown, hg, hat, ⟨oa', cap, rfl⟩⟩ : ∃ v' w', (Builtin.append_ #[T, T] ty #[v, .slice oa m c]).run P w = .ok v' w' ∧ w'.ownsRow w0.heap.size E size v' (len + m) (xs ++ l) ∧ w.grownBy w' v.ownBlock ∧
      (v'.ownBlock = v.ownBlock ∨ v'.ownBlock = some w.heap.size) ∧ ∃ oa cap, v' = .slice oa (len + m) cap := by
    have hform : ∀ {v' : Value} {w' : World} {k : Nat} {ys : List Value}, w'.ownsRow w0.heap.size E size v' k ys → ∃ oa cap, v' = .slice oa k cap := by
      intro v' w' k ys hown
      rcases hown.2 with ⟨rfl, h0⟩ | ⟨g, cap, cur, rfl, _⟩
      · exact ⟨none, 0, by rw [h0]⟩
      · exact ⟨_, _, rfl⟩
    have key : ∀ a, oa = some a → (∀ k u, l[k]? = some u → w.cell? (a.add k) = some u) → ∃ v' w', (Builtin.append_ #[T, T] ty #[v, .slice oa m c]).run P w = .ok v' w' ∧ w'.ownsRow w0.heap.size E size v' (len + m) (xs ++ l) ∧ w.grownBy w' v.ownBlock ∧
      (v'.ownBlock = v.ownBlock ∨ v'.ownBlock = some w.heap.size) ∧ ∃ oa cap, v' = .slice oa (len + m) cap := by
      rintro a rfl hc
      obtain ⟨v', w', hr, hown, hg, hnil, hat⟩ := run_append_own_at (P := P) w w0.heap.size T ty E ti z size bytes ht hinfo hz hsize hby hzs hsz' v len xs hown0 a m c l hl
        (fun k u hk => hc k u hk) h1 h63 hbytes st.chg.size
      exact ⟨v', w', hr, hown, hg, hat, hform hown⟩
    rcases hsrc with rfl | ⟨a, ha, hc⟩
    · obtain rfl : m = 0 := by
        simp only [List.length_nil] at hl
        rcases Nat.eq_zero_or_pos m with h | h
        · exact h
        · have := Nat.mul_pos h hsz'; omega
      cases oa with
      | none => exact ⟨v, w, run_append_none' w0.heap.size T ty E ti size c ht hinfo v len xs hown0, by simpa using hown0, ⟨rfl, rfl, rfl, Nat.le_refl _, fun _ _ _ => rfl⟩, .inl rfl, hform hown0⟩
      | some a => exact key a rfl (fun k u hk => by simp at hk)
    · exact key a ha hc
  refine e_bi [v, .slice oa m c] hw hd (by simp [hx, hy]) (w' := w') (fun cs => ?_) (next oa' cap w' (st.app hi hg hown hat))
  simp only [builtin, Sem.run_bind, List.toArray, hr]
  rfl
theorem dcs_len (ds : List Dc) : (ds.flatMap dcL).length = ds.length * 3 := by
  induction ds with
  | nil => rfl
  | cons x r ih => rw [List.flatMap_cons, List.length_append, ih]; simp [dcL]; omega
theorem dcs_one (ds : List Dc) : ∀ u ∈ ds.flatMap dcL, u.oneCell' = true := by
  intro u hu
  obtain ⟨x, _, hx⟩ := List.mem_flatMap.1 hu
  simp only [dcL, List.mem_cons, List.not_mem_nil, or_false] at hx
  rcases hx with rfl | rfl | rfl <;> rfl
/-- the owned row at 'i' is done: it is a tree with what hangs on it -/
theorem St.ownNw (st : St w0 M hs w) {i : Nat} {E size len cap : Nat} {oa : Option Addr} {xs : List Value} (hi : nth hs i = some (.own (.slice oa len cap) E size len xs)) : w.ownsRow 0 E size (.slice oa len cap) len xs ∧ Nw w0.heap.size (obk oa) := by
  have h : w.ownsRow w0.heap.size E size (.slice oa len cap) len xs := st.res hi
  refine ⟨owns_mono h (fun b _ => Nat.zero_le _), ?_, fun b hb => (owns_lt h b hb).1⟩
  cases oa <;> simp [obk]
/-- the first 'n' become one -/
theorem St.joinN (st : St w0 M hs w) (n : Nat) {q : Res} (hat : ∀ k ∈ q.at?, ∃ r ∈ hs.take n, k ∈ r.at?) (hq : q.holds w0.heap.size w) : St w0 M (q :: hs.drop n) w := by
  have hnd := st.nodup
  unfold Apart at hnd
  rw [← List.take_append_drop n hs, List.pairwise_append] at hnd
  obtain ⟨h1, h2, h3⟩ := hnd
  refine ⟨st.chg, List.pairwise_cons.2 ⟨fun x hx k hk hk' => ?_, h2⟩, fun x hx => ?_⟩
  · obtain ⟨r, hr, hkr⟩ := hat k hk
    exact h3 r hr x hx k hkr hk'
  · rcases List.mem_cons.1 hx with rfl | h
    · exact hq
    · exact st.here x (List.mem_of_mem_drop h)
/-- what two resources lie at is apart -/
theorem St.ne (st : St w0 M hs w) {i j : Nat} {r s : Res} (hij : i ≠ j) (hi : nth hs i = some r) (hj : nth hs j = some s) : ∀ k ∈ r.at?, k ∉ s.at? := apart_nth st.nodup hij hi hj
end
end Sx


namespace Go.Proofs.YtnmhlpnapgojjaaGreatDoor
open Go.RowKit Sx LexS _root_.Go.Proofs.Tryz
theorem Tryz.info63 : Tryz.prog.info? 63 = some Tryz.t63 := by kernel_rfl
theorem Tryz.info67 : Tryz.prog.info? 67 = some Tryz.t67 := by kernel_rfl
theorem Tryz.info69 : Tryz.prog.info? 69 = some Tryz.t69 := by kernel_rfl
section
variable {n0 : Nat}

end
end Go.Proofs.YtnmhlpnapgojjaaGreatDoor


namespace Go.Proofs.YtnmhlpnapgojjaaGreatDoor
open Go.RowKit Sx LexS _root_.Go.Proofs.Tryz
section
variable {n0 : Nat}

end
end Go.Proofs.YtnmhlpnapgojjaaGreatDoor

