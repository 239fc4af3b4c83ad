/- A part of the proof: contracts of functions and plain laws; each theorem says its own conditions. -/
import Derived.Test.YtnmhlpnapgojjaaGreatDoorPrettyOneK1
import Derived.Test.YtnmhlpnapgojjaaGreatDoorPrettyOneK7
import Derived.Test.YtnmhlpnapgojjaaGreatDoorPrettyOneK2
set_option linter.unusedVariables false
set_option linter.unusedSimpArgs false
namespace Go.Proofs.YtnmhlpnapgojjaaGreatDoor
open Go.RowKit Sx LexS _root_.Go.Proofs.Tryz
theorem Sig.pos {w : World} (h : Sig w) : 0 < w.heap.size := World.block_lt_of_cell? w _ (h 0 (by omega)).1
theorem thT_le {p : Pg} {j : Nat} {t : Th} (h : p.threads[j]? = some t) : (txtSs t.body 1).length ≤ (pgT p).length := by
 have h1 := pgT_le p (j + 1)
 rw [thsT_succ h] at h1
 unfold thT at h1
 simp at h1
 omega
set_option maxHeartbeats 2000000 in
theorem wprintP_any (p : Pg) (os ol ot : Option Addr) (cs cl ct : Nat) (w : World) (hS : DcRow w (· < w.heap.size) os p.shared) (hL : DcRow w (· < w.heap.size) ol p.locks) (hT : ThRow w (· < w.heap.size) ot p.threads) (hok : OkP p) (hsg : Sig w) (hlen : pgOk p = true → (pgT p).length ≤ 1099511627776) :
    Ret Tryz.prog 11 [.agg (pgL p os ol ot cs cl ct).toArray] w fun v w' => v = .tuple #[str (pgRes p).1, .int .i64 ((pgRes p).2 : Int)] ∧ Chg [] w w' := by
 refine ret_of [_] func11 rfl ntmps11 rfl ?_
 have st := St.init w []
 obtain ⟨w0, rfl⟩ : ∃ w0, w0 = w := ⟨_, rfl⟩
 have hn3 := hok.2.2.1
 have h0 := hsg.pos
 refine vc_seq (vc_region ?_)
 refine vc_e (e_bx (l := [_, _, _]) st rfl rfl rfl rfl ?_)
 intro b1 w hb1 st
 iterate 2 refine ya ?_
 refine vc_end (vq_then (vk1 1 (vc_seq (vc_seq (vc_region ?_)))))
 refine yla st 0 [_, _, _] isAgg26 sizeOf26 ?_
 refine vc_e (e_call [_] rfl rfl call38 rfl (right_any p _ _ _ _ _ _ _ (RowC.kept hS (Same.of_nil st.chg)) (RowC.kept hL (Same.of_nil st.chg)) (hT.kept (Same.of_nil st.chg)) hok (hsg.kept st.chg)) ?_)
 rintro _ w ⟨rfl, cw⟩
 replace st := st.call0 cw
 refine vy (y_not rfl) ?_
 refine vc_end (vq_then (vk2 1 9 ?_))
 refine vc_ifs rfl ?_ ?_
 ·intro hc9
  try simp only [dn] at hc9
  refine vc_seq (vc_region ?_)
  iterate 2 refine ya ?_
  refine vc_end (vq_then (vk2 2 3 (vc_ret (vq_then_ret ?_))))
  refine vq_ret2 st (.inl rfl) results11 (.tmp rfl) (.tmp rfl) ?_
  refine ⟨_, rfl, ?_⟩
  refine ⟨?_, st.chg⟩
  rw [pgRes_no (by assumption)]; rfl
 ·intro hc9
  try simp only [dn] at hc9
  refine vc_code_skip (vq_then (vk1 1 (vc_seq (vc_region ?_))))
  refine vy (y_bld (.agg #[_, _]) [] rfl (fun w => by simp [Instr.build, go_sem] <;> repeat' constructor)) ?_
  refine vc_e (e_bx (l := [_, _]) st rfl rfl rfl rfl ?_)
  intro b11 w hb11 st
  refine ya ?_
  refine vc_end (vq_then (vk2 1 4 (vc_seq (vc_region ?_))))
  obtain ⟨bw, rfl⟩ : ∃ bw, bw = b11 := ⟨_, rfl⟩
  have hpo : pgOk p = true := by assumption
  replace hlen := hlen hpo
  obtain ⟨q1, q2, q3⟩ := pgOk_inv hpo
  replace st := st.wrNew (E := 5) (n0 := w0.heap.size) hb11 (Nat.le_refl _)
  refine ym ?_
  refine vy (y_fa0 rfl underlying26 rfl rfl sizeOf23 rfl) ?_
  refine yl st 1 isAgg23 ?_
  refine vc_e (e_call [_, _, _, _] rfl rfl call39 rfl (wdecls_any p.shared true q1 hok.1 [115, 104, 97, 114, 101, 100] (by simp) 0 (by omega) _ _ bw _ _ _ (RowC.kept hS (Same.of_nil st.chg)) (st.wrGet (i := 0) rfl) st.chg.size) ?_)
  rintro _ w ⟨rfl, hp⟩
  obtain ⟨v9, st⟩ := st.wr (i := 0) rfl hp
  dsimp only [setNth] at st
  refine vc_end (vq_then (vk2 1 4 (vc_seq (vc_region ?_))))
  refine ym ?_
  refine yfz 1 underlying26 sizeOf23 ?_
  refine yl st 1 isAgg23 ?_
  refine vc_e (e_call [_, _, _, _] rfl rfl call39 rfl (wdecls_any p.locks false q2 hok.2.1 [108, 111, 99, 107] (by simp) 0 (by omega) _ _ bw _ _ _ (RowC.kept hL (Same.of_nil st.chg)) (st.wrGet (i := 0) rfl) st.chg.size) ?_)
  rintro _ w ⟨rfl, hp⟩
  obtain ⟨v9, st⟩ := st.wr (i := 0) rfl hp
  dsimp only [setNth] at st
  refine vc_end (vq_then (vk2 1 4 (vc_seq (vc_seq (vc_region ?_)))))
  refine yfz 2 underlying26 sizeOf24 ?_
  refine yl st 1 isAgg24 ?_
  refine vy (y_lensl rfl underlying24) ?_
  refine ym ?_
  refine vc_end (vq_then (vk4 4 21 22 23 (vc_block ?_)))
  refine vc_loop (w0 := w0) (M := []) (fun (x : Nat × Value) => [(4, .pointer (some ⟨bw, 0, none⟩)), (21, .slice ot p.threads.length ct), (22, .int .i64 (p.threads.length : Int)), (23, .int .i64 (x.1 : Int))]) (fun x => [wrR [] w0.heap.size 5 w0.heap.size 80 bw x.2 (pgH p ++ thsT (p.threads.take x.1))]) (fun x _ => x.1 ≤ p.threads.length) (fun x => p.threads.length - x.1) (0, v9) ⟨rfl, rfl, rfl, rfl, trivial⟩ (by simpa [thsT, pgH] using (st.dr : St w0 [] [wrR [] w0.heap.size 5 w0.heap.size 80 bw v9 _] w)) (by simp) ?_
  clear st
  rintro ⟨j, v1⟩ w hj st
  dsimp only at *
  refine vc_seq (vc_region ?_)
  refine vy (y_lss rfl rfl) ?_
  refine vc_end (vq_then (vk5 4 21 22 23 24 (vc_seq ?_)))
  refine vc_ifs rfl ?_ ?_
  ·intro hc24
   try simp only [dn] at hc24
   have stK := st
   obtain ⟨t, htj⟩ : ∃ t, p.threads[j]? = some t := ⟨_, List.getElem?_eq_getElem (by omega)⟩
   obtain ⟨gb, go, rfl, hgS, hgl, hg⟩ := ThRow.at hT (by omega)
   obtain ⟨tl, tb, cll, cbb, htl, htb, hc⟩ := hg j t htj
   have hkt := hok.2.2.2 j t htj
   obtain ⟨t1, t2, t3⟩ := q3 j t htj
   have hnl := isName_le t1
   have htle := thT_le htj
   have st := stK
   clear stK
   refine vc_code_skip (vq_then (vk4 4 21 22 23 (vc_seq (vc_block (vc_seq (vc_region ?_))))))
   refine vy (y_ia (k := j) rfl rfl underlying24 sizeOf69 rfl (by omega)) ?_
   refine vy (y_ldca (thL t tl tb cll cbb) rfl isAgg69 sizeOf69 rfl (fun i v hi => st.chg.cell (hc i v hi) (by simp))) ?_
   refine vc_e (e_al (l := [_, _, _, _]) st rfl rfl zeroValue69 rfl ?_)
   intro b6 w hb6 st
   refine vc_e (e_sts (vs := [_, _, _, _]) st 0 rfl rfl rfl rfl rfl sizeOf69 rfl rfl (by (right; assumption)) ?_)
   intro w st; dsimp only [setNth, wr] at st
   refine vc_end (vq_then (vk5 4 6 21 22 23 (vc_seq (vc_region ?_))))
   refine ym ?_
   refine vy (y_fa0 rfl underlying69 rfl rfl sizeOf9 rfl) ?_
   refine yl st 0 isAgg9 ?_
   refine vc_e (e_bsn (l := [[116, 104, 114, 101, 97, 100, 32], t.nm, [32, 123]].map str) (E := 9) st [(0, _), (1, _), (2, _)] rfl rfl rfl (fun w => by simp [Instr.buildSlice, run_underlying underlying50, sizeOf9, zeroValue9, Instr.fill, newRow, newObj, Sem.run, go_sem]) ?_)
   intro b30 w hb30 st
   refine vc_e (e_call [_, _, _] rfl rfl call40 rfl (line_any repeat_any bw _ _ 0 (by omega) [[116, 104, 114, 101, 97, 100, 32], t.nm, [32, 123]] (by simp) (by simp; try omega) b30 _ _ (st.wrGet (i := 2) rfl) st.chg.size (fun j x hx => cell_nth (st.res (i := 0) rfl) (strs_nth hx)) (fun hk => apart_nth st.nodup (i := 0) (j := 2) (by decide) rfl rfl _ (.head _) hk)) ?_)
   rintro _ w ⟨rfl, hp⟩
   obtain ⟨v9, st⟩ := st.wr (i := 2) rfl hp
   dsimp only [setNth] at st
   refine vc_end (vq_then (vk5 4 6 21 22 23 (vc_seq (vc_region ?_))))
   refine ym ?_
   refine yfz 1 underlying69 sizeOf23 ?_
   refine yl st 1 isAgg23 ?_
   refine vc_e (e_call [_, _, _, _] rfl rfl call39 rfl (wdecls_any t.locals false t2 hkt.1 [108, 111, 99, 97, 108] (by simp) 1 (by omega) _ _ bw _ _ _ (RowC.kept htl (Same.of_nil st.chg)) (st.wrGet (i := 2) rfl) st.chg.size) ?_)
   rintro _ w ⟨rfl, hp⟩
   obtain ⟨v9, st⟩ := st.wr (i := 2) rfl hp
   dsimp only [setNth] at st
   refine vc_end (vq_then (vk5 4 6 21 22 23 (vc_seq (vc_region ?_))))
   refine ym ?_
   refine yfz 2 underlying69 sizeOf65 ?_
   refine yl st 1 isAgg65 ?_
   refine vc_e (e_call [_, _, _] rfl rfl call41 rfl (wblock_any _ t.body rfl 1 (by omega) t3 hkt.2.1 (by omega) bw _ _ _ _ _ (htb.kept (Same.of_nil st.chg)) (st.wrGet (i := 2) rfl) st.chg.size h0 (hsg.kept st.chg)) ?_)
   rintro _ w ⟨rfl, hp⟩
   obtain ⟨v9, st⟩ := st.wr (i := 2) rfl hp
   dsimp only [setNth] at st
   refine vc_end (vq_then (vk4 4 21 22 23 (vc_region ?_)))
   refine ym ?_
   refine vc_e (e_bsn (l := [[125]].map str) (E := 9) st [(0, _)] rfl rfl rfl (fun w => by simp [Instr.buildSlice, run_underlying underlying50, sizeOf9, zeroValue9, Instr.fill, newRow, newObj, Sem.run, go_sem]) ?_)
   intro b41 w hb41 st
   refine vc_e (e_call [_, _, _] rfl rfl call40 rfl (line_any repeat_any bw _ _ 0 (by omega) [[125]] (by simp) (by simp; try omega) b41 _ _ (st.wrGet (i := 3) rfl) st.chg.size (fun j x hx => cell_nth (st.res (i := 0) rfl) (strs_nth hx)) (fun hk => apart_nth st.nodup (i := 0) (j := 3) (by decide) rfl rfl _ (.head _) hk)) ?_)
   rintro _ w ⟨rfl, hp⟩
   obtain ⟨v9, st⟩ := st.wr (i := 3) rfl hp
   dsimp only [setNth] at st
   refine vc_end (vq_block (vq_then (vk4 4 21 22 23 (vc_region ?_))))
   refine vy (y_add rfl rfl (by omega : _ = ((j + 1 : Nat) : Int)) (by omega) (by omega)) ?_
   refine ym ?_
   refine vc_end ?_
   refine vq_again (j + 1, v9)  ⟨rfl, rfl, rfl, rfl, trivial⟩ (by rw [thsT_succ htj]; unfold thT; simpa [List.append_assoc, mar] using st.pick [3] rfl (by decide)) ?_ ?_
   ·dsimp only; omega
   ·dsimp only; omega
  ·intro hc24
   try simp only [dn] at hc24
   obtain rfl : j = p.threads.length := by omega
   rw [List.take_length, ← pgT_eq] at st
   obtain ⟨l2, many2, hb2, ho2, hws2, -, -⟩ := st.wrGet (i := 0) rfl
   obtain ⟨oq, cq, hvq⟩ := slice_form ho2
   subst hvq
   refine vc_exit (vq_then_exit (vq_then_exit (vq_block_exit (vq_then (vk1 4 (vc_seq (vc_seq (vc_region ?_))))))))
   refine ym ?_
   refine ynk ?_
   refine yfz 1 underlying80 sizeOf4 ?_
   refine vy (y_ldc rfl isAgg4 (ptr_cell hb2)) ?_
   refine vc_end (vq_then (vk2 4 47 ?_))
   refine vc_ifs rfl ?_ ?_
   ·intro hc47
    try simp only [dn] at hc47
    refine vc_seq (vc_region ?_)
    iterate 2 refine ya ?_
    refine vc_end (vq_then (vk2 2 3 (vc_ret (vq_then_ret ?_))))
    refine vq_ret2 st (.inl rfl) results11 (.tmp rfl) (.tmp rfl) ?_
    refine ⟨_, rfl, ?_⟩
    refine ⟨?_, st.chg⟩
    first
     | (have hm : many2 = true := by assumption
        subst hm
        rw [pgRes_long hpo (WS.long hws2)]; rfl)
   ·intro hc47
    try simp only [dn] at hc47
    refine vc_code_skip (vq_then (vk1 4 (vc_seq (vc_region ?_))))
    refine ym ?_
    refine ynk ?_
    refine vy (y_fa0 rfl underlying80 rfl rfl sizeOf78 rfl) ?_
    refine vy (y_ldc rfl isAgg78 (cell_nth (l := [_, _]) hb2 rfl)) ?_
    refine vy (y_b2s rfl (p := l2) (own_rdp ho2) rfl underlying78 underlying5 underlying9) ?_
    iterate 2 refine ya ?_
    refine vc_end (vq_then (vk2 2 3 (vc_ret ?_)))
    refine vq_ret2 st (.inl rfl) results11 (.tmp rfl) (.tmp rfl) ?_
    refine ⟨_, rfl, ?_⟩
    refine ⟨?_, st.chg⟩
    first
     | (have hm : many2 = false := by assumption
        subst hm
        obtain ⟨h1, h2⟩ := WS.yes hws2
        subst h1
        rw [pgRes_ok hpo h2]; rfl)

theorem wcheckP_any (p : Pg) (os ol ot : Option Addr) (cs cl ct : Nat) (w : World) (hS : DcRow w (· < w.heap.size) os p.shared) (hL : DcRow w (· < w.heap.size) ol p.locks) (hT : ThRow w (· < w.heap.size) ot p.threads) (hok : OkP p) (hsg : Sig w) (hlen : pgOk p = true → (pgT p).length ≤ 1099511627776) :
    Ret Tryz.prog 34 [.agg (pgL p os ol ot cs cl ct).toArray] w fun v w' => v = .int .i64 ((pgRes p).2 : Int) ∧ Chg [] w w' := by
 refine ret_of [_] func34 rfl ntmps34 rfl ?_
 have st := St.init w []
 obtain ⟨w0, rfl⟩ : ∃ w0, w0 = w := ⟨_, rfl⟩
 refine vc_seq (vc_region ?_)
 refine vc_e (e_bx (l := [_, _, _]) st rfl rfl rfl rfl ?_)
 intro b1 w hb1 st
 refine ya ?_
 refine vc_end (vq_then (vk1 1 (vc_seq (vc_region ?_))))
 refine yla st 0 [_, _, _] isAgg26 sizeOf26 ?_
 refine vc_e (e_call [_] rfl rfl call11 rfl (wprintP_any p _ _ _ _ _ _ _ (RowC.mono (RowC.kept hS (Same.of_nil st.chg)) (fun b hb => Nat.lt_of_lt_of_le hb st.chg.size)) (RowC.mono (RowC.kept hL (Same.of_nil st.chg)) (fun b hb => Nat.lt_of_lt_of_le hb st.chg.size)) ((hT.kept (Same.of_nil st.chg)).mono (fun b hb => Nat.lt_of_lt_of_le hb st.chg.size)) hok (hsg.kept st.chg) hlen) ?_)
 rintro _ w ⟨rfl, cw⟩
 replace st := st.call0 cw
 refine ym ?_
 iterate 2 refine vy (y_ext rfl rfl) ?_
 iterate 2 refine ya ?_
 refine vc_end (vq_then (vk1 4 (vc_seq (vc_region ?_))))
 refine ym ?_
 refine ya ?_
 refine vc_end (vq_then (vk1 2 (vc_ret ?_)))
 refine vq_ret1 st (.inl rfl) results34 (.tmp rfl) ?_
 refine ⟨_, rfl, ?_⟩
 exact ⟨rfl, st.chg⟩

end Go.Proofs.YtnmhlpnapgojjaaGreatDoor


/- When trees are the same: no program in sight. -/
namespace LexS
open Sx
def zipA {α β : Type} (f : α → β → Bool) : List α → List β → Bool
  | [], [] => true
  | x :: r, y :: s => f x y && zipA f r s
  | _, _ => false
theorem zipA_len {α β : Type} {f : α → β → Bool} : ∀ {a : List α} {b : List β}, a.length ≠ b.length → zipA f a b = false
  | [], [], h => absurd rfl h
  | x :: r, y :: s, h => by simp only [zipA, zipA_len (f := f) (a := r) (b := s) (by simpa using h), Bool.and_false]
  | [], _ :: _, _ => rfl
  | _ :: _, [], _ => rfl
theorem zipA_no {α β : Type} {f : α → β → Bool} : ∀ {a : List α} {b : List β} {j : Nat} {x : α} {y : β}, a[j]? = some x → b[j]? = some y → f x y = false → zipA f a b = false
  | [], _, j, x, y, h, _, _ => by simp at h
  | _ :: _, [], j, x, y, _, h, _ => by simp at h
  | u :: r, v :: s, 0, x, y, h1, h2, h => by simp at h1 h2; subst h1 h2; simp [zipA, h]
  | u :: r, v :: s, j + 1, x, y, h1, h2, h => by simp only [zipA, zipA_no (f := f) (a := r) (b := s) (by simpa using h1) (by simpa using h2) h, Bool.and_false]
theorem zipA_yes {α β : Type} {f : α → β → Bool} : ∀ {a : List α} {b : List β}, a.length = b.length → (∀ (j : Nat) x y, j < a.length → a[j]? = some x → b[j]? = some y → f x y = true) → zipA f a b = true
  | [], [], _, _ => rfl
  | u :: r, v :: s, hl, h => by
    simp only [zipA, Bool.and_eq_true]
    exact ⟨h 0 u v (by simp) rfl rfl, zipA_yes (by simpa using hl) fun j x y hj h1 h2 => h (j + 1) x y (by simp; omega) (by simpa using h1) (by simpa using h2)⟩
  | [], _ :: _, hl, _ => by simp at hl
  | _ :: _, [], hl, _ => by simp at hl
theorem zipA_refl {α : Type} {f : α → α → Bool} {a : List α} (h : ∀ x ∈ a, f x x = true) : zipA f a a = true :=
  zipA_yes rfl fun j x y hj h1 h2 => by rw [h1] at h2; cases h2; exact h x (List.mem_of_getElem? h1)
mutual
def sameE : Ex → Ex → Bool
  | .mk k op wd nm kids a, y => decide (k = y.k ∧ op = y.op ∧ wd = y.wd ∧ nm = y.nm) && sameEs kids y.kids
termination_by structural e => e
def sameEs : List Ex → List Ex → Bool
  | [], l => l.isEmpty
  | x :: r, l => match l with | [] => false | y :: s => sameE x y && sameEs r s
termination_by structural l => l
end
mutual
def plE : Ex → Ex → Bool
  | .mk k op wd nm kids a, y => decide (a = y.a) && plEs kids y.kids
termination_by structural e => e
def plEs : List Ex → List Ex → Bool
  | [], l => l.isEmpty
  | x :: r, l => match l with | [] => false | y :: s => plE x y && plEs r s
termination_by structural l => l
end
theorem sameEs_eq : ∀ (a b : List Ex), sameEs a b = zipA sameE a b
  | [], [] => rfl
  | [], _ :: _ => rfl
  | _ :: _, [] => by simp [sameEs, zipA]
  | x :: r, y :: s => by simp only [sameEs, zipA, sameEs_eq r s]
theorem plEs_eq : ∀ (a b : List Ex), plEs a b = zipA plE a b
  | [], [] => rfl
  | [], _ :: _ => rfl
  | _ :: _, [] => by simp [plEs, zipA]
  | x :: r, y :: s => by simp only [plEs, zipA, plEs_eq r s]
theorem sameE_eq (e y : Ex) : sameE e y = (decide (e.k = y.k ∧ e.op = y.op ∧ e.wd = y.wd ∧ e.nm = y.nm) && zipA sameE e.kids y.kids) := by
  cases e; rw [sameE, sameEs_eq]; rfl
theorem plE_eq (e y : Ex) : plE e y = (decide (e.a = y.a) && zipA plE e.kids y.kids) := by
  cases e; rw [plE, plEs_eq]; rfl
mutual
def sameS : Sm → Sm → Bool
  | .mk k nm other e body els a, y => decide (k = y.k ∧ nm = y.nm ∧ other = y.other) && zipA sameE e y.e && sameSs body y.body && sameSs els y.els
termination_by structural e => e
def sameSs : List Sm → List Sm → Bool
  | [], l => l.isEmpty
  | x :: r, l => match l with | [] => false | y :: s => sameS x y && sameSs r s
termination_by structural l => l
end
mutual
def plS : Sm → Sm → Bool
  | .mk k nm other e body els a, y => decide (a = y.a) && zipA plE e y.e && plSs body y.body && plSs els y.els
termination_by structural e => e
def plSs : List Sm → List Sm → Bool
  | [], l => l.isEmpty
  | x :: r, l => match l with | [] => false | y :: s => plS x y && plSs r s
termination_by structural l => l
end
theorem sameSs_eq : ∀ (a b : List Sm), sameSs a b = zipA sameS a b
  | [], [] => rfl
  | [], _ :: _ => rfl
  | _ :: _, [] => by simp [sameSs, zipA]
  | x :: r, y :: s => by simp only [sameSs, zipA, sameSs_eq r s]
theorem plSs_eq : ∀ (a b : List Sm), plSs a b = zipA plS a b
  | [], [] => rfl
  | [], _ :: _ => rfl
  | _ :: _, [] => by simp [plSs, zipA]
  | x :: r, y :: s => by simp only [plSs, zipA, plSs_eq r s]
theorem sameS_eq (s y : Sm) : sameS s y = (decide (s.k = y.k ∧ s.nm = y.nm ∧ s.other = y.other) && zipA sameE s.e y.e && zipA sameS s.body y.body && zipA sameS s.els y.els) := by
  cases s; rw [sameS, sameSs_eq, sameSs_eq]; rfl
theorem plS_eq (s y : Sm) : plS s y = (decide (s.a = y.a) && zipA plE s.e y.e && zipA plS s.body y.body && zipA plS s.els y.els) := by
  cases s; rw [plS, plSs_eq, plSs_eq]; rfl
def sameD (d y : Dc) : Bool := decide (d.nm = y.nm ∧ d.wd = y.wd)
def eqD (d y : Dc) : Bool := decide (d.nm = y.nm ∧ d.wd = y.wd ∧ d.a = y.a)
def sameT (t y : Th) : Bool := decide (t.nm = y.nm) && zipA sameD t.locals y.locals && zipA sameS t.body y.body
def exT (t y : Th) : Bool := decide (t.a = y.a) && zipA eqD t.locals y.locals && zipA plS t.body y.body
def sameP (p q : Pg) : Bool := zipA sameD p.shared q.shared && zipA sameD p.locks q.locks && zipA sameT p.threads q.threads
def exactP (p q : Pg) : Bool := sameP p q && zipA eqD p.shared q.shared && zipA eqD p.locks q.locks && zipA exT p.threads q.threads
theorem memE_lt {e x : Ex} (h : x ∈ e.kids) : SizeOf.sizeOf x < SizeOf.sizeOf e := by
  cases e with
  | mk k op wd nm kids a =>
    have := List.sizeOf_lt_of_mem h
    simp only [Ex.kids] at this
    simp only [Ex.mk.sizeOf_spec]; omega
theorem memS_lt {s x : Sm} (h : x ∈ s.body ∨ x ∈ s.els) : SizeOf.sizeOf x < SizeOf.sizeOf s := by
  cases s with
  | mk k nm other e body els a =>
    simp only [Sm.body, Sm.els] at h
    simp only [Sm.mk.sizeOf_spec]
    rcases h with h | h <;> (have := List.sizeOf_lt_of_mem h; omega)
theorem sameE_refl : ∀ (n : Nat) (e : Ex), SizeOf.sizeOf e = n → sameE e e = true := by
  intro n
  refine Nat.strongRecOn n fun n ih e hn => ?_
  subst hn
  rw [sameE_eq]
  simp only [and_self, decide_true, Bool.true_and]
  exact zipA_refl fun x hx => ih _ (memE_lt hx) x rfl
theorem plE_refl : ∀ (n : Nat) (e : Ex), SizeOf.sizeOf e = n → plE e e = true := by
  intro n
  refine Nat.strongRecOn n fun n ih e hn => ?_
  subst hn
  rw [plE_eq]
  simp only [decide_true, Bool.true_and]
  exact zipA_refl fun x hx => ih _ (memE_lt hx) x rfl
theorem sameS_refl : ∀ (n : Nat) (s : Sm), SizeOf.sizeOf s = n → sameS s s = true := by
  intro n
  refine Nat.strongRecOn n fun n ih s hn => ?_
  subst hn
  rw [sameS_eq]
  simp only [and_self, decide_true, Bool.true_and, Bool.and_eq_true]
  exact ⟨⟨zipA_refl fun x hx => sameE_refl _ x rfl, zipA_refl fun x hx => ih _ (memS_lt (.inl hx)) x rfl⟩, zipA_refl fun x hx => ih _ (memS_lt (.inr hx)) x rfl⟩
theorem plS_refl : ∀ (n : Nat) (s : Sm), SizeOf.sizeOf s = n → plS s s = true := by
  intro n
  refine Nat.strongRecOn n fun n ih s hn => ?_
  subst hn
  rw [plS_eq]
  simp only [decide_true, Bool.true_and, Bool.and_eq_true]
  exact ⟨⟨zipA_refl fun x hx => plE_refl _ x rfl, zipA_refl fun x hx => ih _ (memS_lt (.inl hx)) x rfl⟩, zipA_refl fun x hx => ih _ (memS_lt (.inr hx)) x rfl⟩
theorem sameP_refl (p : Pg) : sameP p p = true := by
  unfold sameP
  simp only [Bool.and_eq_true]
  refine ⟨⟨zipA_refl fun x _ => by simp [sameD], zipA_refl fun x _ => by simp [sameD]⟩, zipA_refl fun t _ => ?_⟩
  unfold sameT
  simp only [decide_true, Bool.true_and, Bool.and_eq_true]
  exact ⟨zipA_refl fun x _ => by simp [sameD], zipA_refl fun x _ => sameS_refl _ x rfl⟩
theorem exactP_refl (p : Pg) : exactP p p = true := by
  unfold exactP
  simp only [sameP_refl, Bool.true_and, Bool.and_eq_true]
  refine ⟨⟨zipA_refl fun x _ => by simp [eqD], zipA_refl fun x _ => by simp [eqD]⟩, zipA_refl fun t _ => ?_⟩
  unfold exT
  simp only [decide_true, Bool.true_and, Bool.and_eq_true]
  exact ⟨zipA_refl fun x _ => by simp [eqD], zipA_refl fun x _ => plS_refl _ x rfl⟩
end LexS


namespace Go.Proofs.YtnmhlpnapgojjaaGreatDoor
open Go.RowKit Sx LexS _root_.Go.Proofs.Tryz
theorem fields67 : (Tryz.prog.fieldsOf 63).toList.map (fun f => (f.name, f.type, f.offset)) = [("Name", 9, 0), ("Word", 2, 1), ("At", 3, 2)] := by kernel_rfl
theorem eqFields67 (p q : Dc) (w : World) : (Op.eqFields 9999 (dcL p).toArray (dcL q).toArray (Tryz.prog.fieldsOf 63).toList).run Tryz.prog w = .ok (eqD p q) w := by
 have h := fields67
 match hf : (Tryz.prog.fieldsOf 63).toList with
 | [a, b, c] =>
  rw [hf] at h
  simp only [List.map_cons, List.map_nil, List.cons.injEq, Prod.mk.injEq, and_true] at h
  obtain ⟨⟨a1, a2, a3⟩, ⟨b1, b2, b3⟩, c1, c2, c3⟩ := h
  have e1 : ∀ (x : Dc) w, (part 9 (dcL x).toArray 0).run Tryz.prog w = .ok (str x.nm) w := fun x w => run_part1 isAgg9 rfl
  have e2 : ∀ (x : Dc) w, (part 2 (dcL x).toArray 1).run Tryz.prog w = .ok (.int .i64 x.wd) w := fun x w => run_part1 isAgg2 rfl
  have e3 : ∀ (x : Dc) w, (part 3 (dcL x).toArray 2).run Tryz.prog w = .ok (.int .i64 x.a) w := fun x w => run_part1 isAgg3 rfl
  have r1 := run_equalIn_string (P := Tryz.prog) w 9998 9 ⟨p.nm.toArray⟩ ⟨q.nm.toArray⟩ underlying9
  have r2 := run_equalIn_int (P := Tryz.prog) w 9998 2 .i64 .i64 p.wd q.wd underlying2
  have r3 := run_equalIn_int (P := Tryz.prog) w 9998 3 .i64 .i64 p.a q.a underlying3
  simp only [str_toList] at r1
  simp only [Op.eqFields, a1, a2, a3, b1, b2, b3, c1, c2, c3, Sem.run_bind, Sem.run_ite, e1, e2, e3, Result.andThen_ok]
  simp only [ne_eq, String.reduceEq, not_false_eq_true, if_true, Sem.run_bind, Sem.run_ite, e1, e2, e3, r1, r2, r3, Result.andThen_ok, Sem.run_pure]
  unfold eqD
  by_cases h1 : p.nm = q.nm
  ·by_cases h2 : p.wd = q.wd
   ·by_cases h3 : p.a = q.a <;> simp [h1, h2, h3]
   ·simp [h1, h2]
  ·simp [h1]
 | [] => rw [hf] at h; simp at h
 | [_] => rw [hf] at h; simp at h
 | [_, _] => rw [hf] at h; simp at h
 | _ :: _ :: _ :: _ :: _ => rw [hf] at h; simp at h
section
variable {n : Fr} {kn : Kn} {w : World} {d ty : Nat} {pos : String} {aft : Array Edge} {g : Option (Nat × Bool)}
theorem y_neD {U : Nat} {x y : Operand} {p q : Dc} (hx : evO kn x = some (.agg (dcL p).toArray)) (hy : evO kn y = some (.agg (dcL q).toArray)) : Y Tryz.prog n kn w ⟨some d, .binOp .neq 63 x y U, ty, pos, aft, g⟩ (.bool (!eqD p q)) :=
 y_bo hx hy (by
   have h1 := run_eqGuard_agg (P := Tryz.prog) w .neq 63 x y (dcL p).toArray (dcL q).toArray (by kernel_rfl)
   have h2 := run_neq_struct (P := Tryz.prog) w 63 (dcL p).toArray (dcL q).toArray
   rw [run_equalIn_agg w 9999 63 _ _ (by kernel_rfl) (by kernel_rfl), eqFields67] at h2
   simp only [Sem.run_bind, h1, Result.andThen_ok]
   have h3 : (binOp .neq 63 (.agg (dcL p).toArray) (.agg (dcL q).toArray)).run Tryz.prog w = .ok (.bool (!eqD p q)) w := by rw [h2]; rfl
   exact h3)
end
end Go.Proofs.YtnmhlpnapgojjaaGreatDoor


namespace Go.Proofs.YtnmhlpnapgojjaaGreatDoor
open Go.RowKit Sx LexS _root_.Go.Proofs.Tryz
section
variable {S : Nat → Prop}

theorem rdeclsS_any (a b : List Dc) (oa ob : Option Addr) (ca cb : Nat) (w : World) (hA : DcRow w S oa a) (hB : DcRow w S ob b) (hn : a.length ≤ 1099511627776) :
    Ret Tryz.prog 44 [.slice oa a.length ca, .slice ob b.length cb] w fun v w' => v = .bool (zipA sameD a b) ∧ Chg [] w w' := by
 refine ret_of [_, _] func44 rfl ntmps44 rfl ?_
 have st := St.init w []
 obtain ⟨w0, rfl⟩ : ∃ w0, w0 = w := ⟨_, rfl⟩
 refine vc_seq (vc_region ?_)
 refine ya ?_
 refine vc_end (vq_then (vk2 0 1 (vc_seq (vc_seq (vc_region ?_)))))
 refine ym ?_
 refine vy (y_lensl rfl underlying23) ?_
 refine ym ?_
 refine vy (y_lensl rfl underlying23) ?_
 refine vy (y_nei rfl rfl) ?_
 refine vc_end (vq_then (vk3 0 1 10 ?_))
 refine vc_ifs rfl ?_ ?_
 ·intro hc10
  try simp only [dn] at hc10
  refine vc_seq (vc_region ?_)
  refine ya ?_
  refine vc_end (vq_then (vk1 4 (vc_ret (vq_then_ret ?_))))
  refine vq_ret1 st (.inl rfl) results44 (.tmp rfl) ?_
  refine ⟨_, rfl, ?_⟩
  refine ⟨?_, st.chg⟩
  rw [zipA_len (by omega)]
 ·intro hc10
  try simp only [dn] at hc10
  have hlen : a.length = b.length := by omega
  refine vc_code_skip (vq_then (vk2 0 1 (vc_seq (vc_seq (vc_region ?_)))))
  refine ym ?_
  refine vy (y_lensl rfl underlying23) ?_
  refine ym ?_
  refine vc_end (vq_then (vk4 0 1 12 13 (vc_block ?_)))
  refine vc_loop (w0 := w0) (M := []) (fun (j : Nat) => [(0, .slice oa a.length ca), (1, .slice ob b.length cb), (12, .int .i64 (a.length : Int)), (13, .int .i64 (j : Int))]) (fun _ => []) (fun j _ => j ≤ a.length ∧ ∀ (i : Nat) x y, i < j → a[i]? = some x → b[i]? = some y → sameD x y = true) (fun j => a.length - j) 0 ⟨rfl, rfl, rfl, rfl, trivial⟩ (st.dr) ⟨by omega, fun i x y h => by omega⟩ ?_
  clear st
  rintro j w ⟨hj, hall⟩ st
  refine vc_seq (vc_region ?_)
  refine vy (y_lss rfl rfl) ?_
  refine vc_end (vq_then (vk5 0 1 12 13 14 (vc_seq ?_)))
  refine vc_ifs rfl ?_ ?_
  ·intro hc14
   try simp only [dn] at hc14
   obtain ⟨x, hx⟩ : ∃ x, a[j]? = some x := ⟨_, List.getElem?_eq_getElem (by omega)⟩
   obtain ⟨y, hy⟩ : ∃ y, b[j]? = some y := ⟨_, List.getElem?_eq_getElem (by omega)⟩
   obtain ⟨gb, go, rfl, hgS, hgl, hg⟩ := DcRow.at hA (by omega)
   obtain ⟨fb, fo, rfl, hfS, hfl, hf⟩ := DcRow.at hB (by omega)
   have hc := hg j x hx
   have hd := hf j y hy
   refine vc_code_skip (vq_then (vk4 0 1 12 13 (vc_seq (vc_block (vc_seq (vc_region ?_))))))
   refine ym ?_
   refine ya ?_
   refine vc_end (vq_then (vk5 0 1 5 12 13 (vc_seq ?_)))
   refine vc_draw Tryz.mixed [(0, true), (1, true), (2, true), (3, true), (4, true), (5, true), (6, true), (7, true), (8, true), (9, true), (10, true), (11, true), (12, true), (13, true), (14, true), (15, true), (16, true), (17, true), (18, true), (19, true), (20, true), (21, true), (22, true), (23, true)] (fun w => St _ _ _ w) st (by kernel_rfl) (by repeat (first | exact okQ_body | refine okQ_then ?_ | refine okQ_block ?_)) rfl (by kernel_rfl) ?_
   intro w cd; replace st := st.call0 cd; clear cd
   have hS := st
   iterate 2 refine pm hS ?_
   refine vp_take rfl rfl rfl hS (fun w st => y_ia (k := j) rfl rfl underlying23 sizeOf63 rfl (by omega)) ?_
   refine pf0 hS underlying63 sizeOf9 ?_
   refine vp_take rfl rfl rfl hS (fun w st => y_ldc rfl isAgg9 (st.chg.cell (hc 0 _ rfl) (by simp))) ?_
   iterate 2 refine pm hS ?_
   refine vp_take rfl rfl rfl hS (fun w st => y_ia (k := j) rfl rfl underlying23 sizeOf63 rfl (by omega)) ?_
   refine pf0 hS underlying63 sizeOf9 ?_
   refine vp_take rfl rfl rfl hS (fun w st => y_ldc rfl isAgg9 (st.chg.cell (hd 0 _ rfl) (by simp))) ?_
   refine vp_take rfl rfl rfl hS (fun w st => y_nes rfl rfl) ?_
   refine vp_part rfl rfl rfl hS rfl ?_ ?_
   ·intro hg27
    try simp only [dn] at hg27
    iterate 11 refine vp_skip rfl rfl rfl hS ?_
    refine vp_take rfl rfl rfl hS (fun w st => y_pickt rfl rfl) ?_
    refine vp_end (vq_then (vk5 0 1 12 13 39 ?_))
    refine vc_ift rfl ?_
    refine vc_seq (vc_region ?_)
    refine ya ?_
    refine vc_end (vq_then (vk1 4 (vc_ret (vq_block_ret (vq_then_ret (vq_then_ret (vq_block_ret (vq_then_ret ?_))))))))
    refine vq_ret1 st (.inl rfl) results44 (.tmp rfl) ?_
    refine ⟨_, rfl, ?_⟩
    refine ⟨?_, st.chg⟩
    rw [zipA_no hx hy (by unfold sameD; simp_all)]
   ·intro hg27
    try simp only [dn] at hg27
    iterate 2 refine pm hS ?_
    refine vp_take rfl rfl rfl hS (fun w st => y_ia (k := j) rfl rfl underlying23 sizeOf63 rfl (by omega)) ?_
    refine vp_take rfl rfl rfl hS (fun w st => y_fa (k := 1) rfl underlying63 rfl rfl sizeOf2 rfl) ?_
    refine vp_take rfl rfl rfl hS (fun w st => y_ldc rfl isAgg2 (st.chg.cell (hc 1 _ rfl) (by simp))) ?_
    iterate 2 refine pm hS ?_
    refine vp_take rfl rfl rfl hS (fun w st => y_ia (k := j) rfl rfl underlying23 sizeOf63 rfl (by omega)) ?_
    refine vp_take rfl rfl rfl hS (fun w st => y_fa (k := 1) rfl underlying63 rfl rfl sizeOf2 rfl) ?_
    refine vp_take rfl rfl rfl hS (fun w st => y_ldc rfl isAgg2 (st.chg.cell (hd 1 _ rfl) (by simp))) ?_
    refine vp_take rfl rfl rfl hS (fun w st => y_nei rfl rfl) ?_
    refine vp_take rfl rfl rfl hS (fun w st => y_pickf rfl rfl) ?_
    refine vp_end (vq_then (vk5 0 1 12 13 39 ?_))
    refine vc_ifs rfl ?_ ?_
    ·intro hc39
     try simp only [dn] at hc39
     refine vc_seq (vc_region ?_)
     refine ya ?_
     refine vc_end (vq_then (vk1 4 (vc_ret (vq_block_ret (vq_then_ret (vq_then_ret (vq_block_ret (vq_then_ret ?_))))))))
     refine vq_ret1 st (.inl rfl) results44 (.tmp rfl) ?_
     refine ⟨_, rfl, ?_⟩
     refine ⟨?_, st.chg⟩
     rw [zipA_no hx hy (by unfold sameD; simp_all)]
    ·intro hc39
     try simp only [dn] at hc39
     refine vc_code_skip (vq_block (vq_then (vk4 0 1 12 13 (vc_region ?_))))
     refine vy (y_add rfl rfl (by omega : _ = ((j + 1 : Nat) : Int)) (by omega) (by omega)) ?_
     refine ym ?_
     refine vc_end ?_
     refine vq_again (j + 1)  ⟨rfl, rfl, rfl, rfl, trivial⟩ (st.dr) ?_ ?_
     ·exact ⟨by omega, fun i x' y' hi h1 h2 => by
        rcases (by omega : i < j ∨ i = j) with h | rfl
        · exact hall i x' y' h h1 h2
        · rw [hx] at h1; rw [hy] at h2; cases h1; cases h2; (unfold sameD; simp_all)⟩
     ·omega
  ·intro hc14
   try simp only [dn] at hc14
   refine vc_exit (vq_then_exit (vq_then_exit (vq_block_exit (vq_then (vc_keep [] trivial (vc_seq (vc_region ?_)))))))
   refine ya ?_
   refine vc_end (vq_then (vk1 4 (vc_ret ?_)))
   refine vq_ret1 st (.inl rfl) results44 (.tmp rfl) ?_
   refine ⟨_, rfl, ?_⟩
   refine ⟨?_, st.chg⟩
   rw [zipA_yes hlen fun i x y hi h1 h2 => hall i x y (by omega) h1 h2]

theorem rdeclared_any (a b : List Dc) (oa ob : Option Addr) (ca cb : Nat) (w : World) (hA : DcRow w S oa a) (hB : DcRow w S ob b) (hn : a.length ≤ 1099511627776) :
    Ret Tryz.prog 42 [.slice oa a.length ca, .slice ob b.length cb] w fun v w' => v = .bool (zipA eqD a b) ∧ Chg [] w w' := by
 refine ret_of [_, _] func42 rfl ntmps42 rfl ?_
 have st := St.init w []
 obtain ⟨w0, rfl⟩ : ∃ w0, w0 = w := ⟨_, rfl⟩
 refine vc_seq (vc_region ?_)
 refine ya ?_
 refine vc_end (vq_then (vk2 0 1 (vc_seq (vc_seq (vc_region ?_)))))
 refine ym ?_
 refine vy (y_lensl rfl underlying23) ?_
 refine ym ?_
 refine vy (y_lensl rfl underlying23) ?_
 refine vy (y_nei rfl rfl) ?_
 refine vc_end (vq_then (vk3 0 1 10 ?_))
 refine vc_ifs rfl ?_ ?_
 ·intro hc10
  try simp only [dn] at hc10
  refine vc_seq (vc_region ?_)
  refine ya ?_
  refine vc_end (vq_then (vk1 4 (vc_ret (vq_then_ret ?_))))
  refine vq_ret1 st (.inl rfl) results42 (.tmp rfl) ?_
  refine ⟨_, rfl, ?_⟩
  refine ⟨?_, st.chg⟩
  rw [zipA_len (by omega)]
 ·intro hc10
  try simp only [dn] at hc10
  have hlen : a.length = b.length := by omega
  refine vc_code_skip (vq_then (vk2 0 1 (vc_seq (vc_seq (vc_region ?_)))))
  refine ym ?_
  refine vy (y_lensl rfl underlying23) ?_
  refine ym ?_
  refine vc_end (vq_then (vk4 0 1 12 13 (vc_block ?_)))
  refine vc_loop (w0 := w0) (M := []) (fun (j : Nat) => [(0, .slice oa a.length ca), (1, .slice ob b.length cb), (12, .int .i64 (a.length : Int)), (13, .int .i64 (j : Int))]) (fun _ => []) (fun j _ => j ≤ a.length ∧ ∀ (i : Nat) x y, i < j → a[i]? = some x → b[i]? = some y → eqD x y = true) (fun j => a.length - j) 0 ⟨rfl, rfl, rfl, rfl, trivial⟩ (st.dr) ⟨by omega, fun i x y h => by omega⟩ ?_
  clear st
  rintro j w ⟨hj, hall⟩ st
  refine vc_seq (vc_region ?_)
  refine vy (y_lss rfl rfl) ?_
  refine vc_end (vq_then (vk5 0 1 12 13 14 (vc_seq ?_)))
  refine vc_ifs rfl ?_ ?_
  ·intro hc14
   try simp only [dn] at hc14
   obtain ⟨x, hx⟩ : ∃ x, a[j]? = some x := ⟨_, List.getElem?_eq_getElem (by omega)⟩
   obtain ⟨y, hy⟩ : ∃ y, b[j]? = some y := ⟨_, List.getElem?_eq_getElem (by omega)⟩
   obtain ⟨gb, go, rfl, hgS, hgl, hg⟩ := DcRow.at hA (by omega)
   obtain ⟨fb, fo, rfl, hfS, hfl, hf⟩ := DcRow.at hB (by omega)
   have hc := hg j x hx
   have hd := hf j y hy
   refine vc_code_skip (vq_then (vk4 0 1 12 13 (vc_seq (vc_block (vc_seq (vc_region ?_))))))
   refine ym ?_
   refine ya ?_
   refine vc_end (vq_then (vk5 0 1 5 12 13 (vc_seq ?_)))
   refine vc_draw Tryz.mixed [(0, true), (1, true), (2, true), (3, true), (4, true), (5, true), (6, true), (7, true), (8, true)] (fun w => St _ _ _ w) st (by kernel_rfl) (by repeat (first | exact okQ_body | refine okQ_then ?_ | refine okQ_block ?_)) rfl (by kernel_rfl) ?_
   intro w cd; replace st := st.call0 cd; clear cd
   have hS := st
   iterate 2 refine pm hS ?_
   refine vp_take rfl rfl rfl hS (fun w st => y_ia (k := j) rfl rfl underlying23 sizeOf63 rfl (by omega)) ?_
   refine vp_take rfl rfl rfl hS (fun w st => y_ldca (dcL x) rfl isAgg63 sizeOf63 rfl (fun i v hi => st.chg.cell (hc i v hi) (by simp))) ?_
   iterate 2 refine pm hS ?_
   refine vp_take rfl rfl rfl hS (fun w st => y_ia (k := j) rfl rfl underlying23 sizeOf63 rfl (by omega)) ?_
   refine vp_take rfl rfl rfl hS (fun w st => y_ldca (dcL y) rfl isAgg63 sizeOf63 rfl (fun i v hi => st.chg.cell (hd i v hi) (by simp))) ?_
   refine vp_take rfl rfl rfl hS (fun w st => y_neD (p := x) (q := y) rfl rfl) ?_
   refine vp_end (vq_then (vk5 0 1 12 13 24 ?_))
   refine vc_ifs rfl ?_ ?_
   ·intro hc24
    try simp only [dn] at hc24
    refine vc_seq (vc_region ?_)
    refine ya ?_
    refine vc_end (vq_then (vk1 4 (vc_ret (vq_block_ret (vq_then_ret (vq_then_ret (vq_block_ret (vq_then_ret ?_))))))))
    refine vq_ret1 st (.inl rfl) results42 (.tmp rfl) ?_
    refine ⟨_, rfl, ?_⟩
    refine ⟨?_, st.chg⟩
    rw [zipA_no hx hy (by simp_all)]
   ·intro hc24
    try simp only [dn] at hc24
    refine vc_code_skip (vq_block (vq_then (vk4 0 1 12 13 (vc_region ?_))))
    refine vy (y_add rfl rfl (by omega : _ = ((j + 1 : Nat) : Int)) (by omega) (by omega)) ?_
    refine ym ?_
    refine vc_end ?_
    refine vq_again (j + 1)  ⟨rfl, rfl, rfl, rfl, trivial⟩ (st.dr) ?_ ?_
    ·exact ⟨by omega, fun i x' y' hi h1 h2 => by
       rcases (by omega : i < j ∨ i = j) with h | rfl
       · exact hall i x' y' h h1 h2
       · rw [hx] at h1; rw [hy] at h2; cases h1; cases h2; (simp_all)⟩
    ·omega
  ·intro hc14
   try simp only [dn] at hc14
   refine vc_exit (vq_then_exit (vq_then_exit (vq_block_exit (vq_then (vc_keep [] trivial (vc_seq (vc_region ?_)))))))
   refine ya ?_
   refine vc_end (vq_then (vk1 4 (vc_ret ?_)))
   refine vq_ret1 st (.inl rfl) results42 (.tmp rfl) ?_
   refine ⟨_, rfl, ?_⟩
   refine ⟨?_, st.chg⟩
   rw [zipA_yes hlen fun i x y hi h1 h2 => hall i x y (by omega) h1 h2]

theorem rsameE_any (e y : Ex) (o o' : Option Addr) (c c' : Nat) (w : World) (hr : ExRow w S o e.kids) (hr' : ExRow w S o' y.kids)
    (hrec : ∀ w, ExRow w S o e.kids → ExRow w S o' y.kids → Ret Tryz.prog 51 [.slice o e.kids.length c, .slice o' y.kids.length c'] w fun v w' => v = .bool (zipA sameE e.kids y.kids) ∧ Chg [] w w') :
  Ret Tryz.prog 17 [.agg (exL e o c).toArray, .agg (exL y o' c').toArray] w fun v w' => v = .bool (sameE e y) ∧ Chg [] w w' := by
 refine ret_of [_, _] func17 rfl ntmps17 rfl ?_
 have st := St.init w []
 obtain ⟨w0, rfl⟩ : ∃ w0, w0 = w := ⟨_, rfl⟩
 refine vc_seq (vc_region ?_)
 refine vc_e (e_bx (l := [_, _, _, _, _, _]) st rfl rfl rfl rfl ?_)
 intro b2 w hb2 st
 refine vc_e (e_bx (l := [_, _, _, _, _, _]) st rfl rfl rfl rfl ?_)
 intro b3 w hb3 st
 refine ya ?_
 refine vc_end (vq_then (vk2 2 3 (vc_seq (vc_seq (vc_region ?_)))))
 refine vy (y_fa0 rfl underlying42 rfl rfl sizeOf38 rfl) ?_
 refine yl st 1 isAgg38 ?_
 refine vy (y_fa0 rfl underlying42 rfl rfl sizeOf38 rfl) ?_
 refine yl st 0 isAgg38 ?_
 refine vy (y_nei rfl rfl) ?_
 refine vmb ?_ ?_
 ·intro hg10
  try simp only [dn] at hg10
  iterate 5 refine vsk ?_
  refine ypt ?_
  refine ym ?_
  iterate 5 refine vsk ?_
  refine ypt ?_
  refine ym ?_
  iterate 5 refine vsk ?_
  refine ypt ?_
  refine vc_end (vq_then (vk3 2 3 30 ?_))
  refine vc_ift rfl ?_
  refine vc_seq (vc_region ?_)
  refine ya ?_
  refine vc_end (vq_then (vk1 4 (vc_ret (vq_then_ret ?_))))
  refine vq_ret1 st (.inl rfl) results17 (.tmp rfl) ?_
  refine ⟨_, rfl, ?_⟩
  refine ⟨?_, st.chg⟩
  rw [sameE_eq]
  first
   | (rw [show decide (e.k = y.k ∧ e.op = y.op ∧ e.wd = y.wd ∧ e.nm = y.nm) = false from by
       simp only [decide_eq_false_iff_not]
       rintro ⟨q1, q2, q3, q4⟩
       simp_all]
      rfl)
 ·intro hg10
  try simp only [dn] at hg10
  refine yfz 1 underlying42 sizeOf39 ?_
  refine yl st 1 isAgg39 ?_
  refine yfz 1 underlying42 sizeOf39 ?_
  refine yl st 0 isAgg39 ?_
  refine vy (y_nei rfl rfl) ?_
  refine ypf ?_
  refine vmb ?_ ?_
  ·intro hg17
   try simp only [dn] at hg17
   iterate 5 refine vsk ?_
   refine ypt ?_
   refine ym ?_
   iterate 5 refine vsk ?_
   refine ypt ?_
   refine vc_end (vq_then (vk3 2 3 30 ?_))
   refine vc_ift rfl ?_
   refine vc_seq (vc_region ?_)
   refine ya ?_
   refine vc_end (vq_then (vk1 4 (vc_ret (vq_then_ret ?_))))
   refine vq_ret1 st (.inl rfl) results17 (.tmp rfl) ?_
   refine ⟨_, rfl, ?_⟩
   refine ⟨?_, st.chg⟩
   rw [sameE_eq]
   first
    | (rw [show decide (e.k = y.k ∧ e.op = y.op ∧ e.wd = y.wd ∧ e.nm = y.nm) = false from by
        simp only [decide_eq_false_iff_not]
        rintro ⟨q1, q2, q3, q4⟩
        simp_all]
       rfl)
  ·intro hg17
   try simp only [dn] at hg17
   refine yfz 2 underlying42 sizeOf2 ?_
   refine yl st 1 isAgg2 ?_
   refine yfz 2 underlying42 sizeOf2 ?_
   refine yl st 0 isAgg2 ?_
   refine vy (y_nei rfl rfl) ?_
   refine ypf ?_
   refine vmb ?_ ?_
   ·intro hg24
    try simp only [dn] at hg24
    iterate 5 refine vsk ?_
    refine ypt ?_
    refine vc_end (vq_then (vk3 2 3 30 ?_))
    refine vc_ift rfl ?_
    refine vc_seq (vc_region ?_)
    refine ya ?_
    refine vc_end (vq_then (vk1 4 (vc_ret (vq_then_ret ?_))))
    refine vq_ret1 st (.inl rfl) results17 (.tmp rfl) ?_
    refine ⟨_, rfl, ?_⟩
    refine ⟨?_, st.chg⟩
    rw [sameE_eq]
    first
     | (rw [show decide (e.k = y.k ∧ e.op = y.op ∧ e.wd = y.wd ∧ e.nm = y.nm) = false from by
         simp only [decide_eq_false_iff_not]
         rintro ⟨q1, q2, q3, q4⟩
         simp_all]
        rfl)
   ·intro hg24
    try simp only [dn] at hg24
    refine yfz 3 underlying42 sizeOf9 ?_
    refine yl st 1 isAgg9 ?_
    refine yfz 3 underlying42 sizeOf9 ?_
    refine yl st 0 isAgg9 ?_
    refine vy (y_nes rfl rfl) ?_
    refine ypf ?_
    refine vc_end (vq_then (vk3 2 3 30 ?_))
    refine vc_ifs rfl ?_ ?_
    ·intro hc30
     try simp only [dn] at hc30
     refine vc_seq (vc_region ?_)
     refine ya ?_
     refine vc_end (vq_then (vk1 4 (vc_ret (vq_then_ret ?_))))
     refine vq_ret1 st (.inl rfl) results17 (.tmp rfl) ?_
     refine ⟨_, rfl, ?_⟩
     refine ⟨?_, st.chg⟩
     rw [sameE_eq]
     first
      | (rw [show decide (e.k = y.k ∧ e.op = y.op ∧ e.wd = y.wd ∧ e.nm = y.nm) = false from by
          simp only [decide_eq_false_iff_not]
          rintro ⟨q1, q2, q3, q4⟩
          simp_all]
         rfl)
    ·intro hc30
     try simp only [dn] at hc30
     refine vc_code_skip (vq_then (vk2 2 3 (vc_seq (vc_region ?_))))
     refine yfz 4 underlying42 sizeOf40 ?_
     refine yl st 1 isAgg40 ?_
     refine yfz 4 underlying42 sizeOf40 ?_
     refine yl st 0 isAgg40 ?_
     refine vc_e (e_call [_, _] rfl rfl call51 rfl (hrec _ (hr.kept (Same.of_nil st.chg)) (hr'.kept (Same.of_nil st.chg))) ?_)
     rintro _ w ⟨rfl, cw⟩
     replace st := st.call0 cw
     refine ya ?_
     refine vc_end (vq_then (vk1 4 (vc_ret ?_)))
     refine vq_ret1 st (.inl rfl) results17 (.tmp rfl) ?_
     refine ⟨_, rfl, ?_⟩
     refine ⟨?_, st.chg⟩
     rw [sameE_eq]
     (rw [show decide (e.k = y.k ∧ e.op = y.op ∧ e.wd = y.wd ∧ e.nm = y.nm) = true from by simp_all, Bool.true_and])

theorem rexprsS_any : ∀ (n : Nat) (a : List Ex), szo a = n → OkEs a → ∀ (b : List Ex) (oa ob : Option Addr) (ca cb : Nat) (w : World), ExRow w S oa a → ExRow w S ob b →
    Ret Tryz.prog 51 [.slice oa a.length ca, .slice ob b.length cb] w fun v w' => v = .bool (zipA sameE a b) ∧ Chg [] w w' := by
 intro n
 refine Nat.strongRecOn n fun n ih => ?_
 intro a hn hok b oa ob ca cb w hA hB
 subst hn
 have hn := hok.1
 refine ret_of [_, _] func51 rfl ntmps51 rfl ?_
 have st := St.init w []
 obtain ⟨w0, rfl⟩ : ∃ w0, w0 = w := ⟨_, rfl⟩
 refine vc_seq (vc_region ?_)
 refine ya ?_
 refine vc_end (vq_then (vk2 0 1 (vc_seq (vc_seq (vc_region ?_)))))
 refine ym ?_
 refine vy (y_lensl rfl underlying40) ?_
 refine ym ?_
 refine vy (y_lensl rfl underlying40) ?_
 refine vy (y_nei rfl rfl) ?_
 refine vc_end (vq_then (vk3 0 1 10 ?_))
 refine vc_ifs rfl ?_ ?_
 ·intro hc10
  try simp only [dn] at hc10
  refine vc_seq (vc_region ?_)
  refine ya ?_
  refine vc_end (vq_then (vk1 4 (vc_ret (vq_then_ret ?_))))
  refine vq_ret1 st (.inl rfl) results51 (.tmp rfl) ?_
  refine ⟨_, rfl, ?_⟩
  refine ⟨?_, st.chg⟩
  rw [zipA_len (by omega)]
 ·intro hc10
  try simp only [dn] at hc10
  have hlen : a.length = b.length := by omega
  refine vc_code_skip (vq_then (vk2 0 1 (vc_seq (vc_seq (vc_region ?_)))))
  refine ym ?_
  refine vy (y_lensl rfl underlying40) ?_
  refine ym ?_
  refine vc_end (vq_then (vk4 0 1 12 13 (vc_block ?_)))
  refine vc_loop (w0 := w0) (M := []) (fun (j : Nat) => [(0, .slice oa a.length ca), (1, .slice ob b.length cb), (12, .int .i64 (a.length : Int)), (13, .int .i64 (j : Int))]) (fun _ => []) (fun j _ => j ≤ a.length ∧ ∀ (i : Nat) x y, i < j → a[i]? = some x → b[i]? = some y → sameE x y = true) (fun j => a.length - j) 0 ⟨rfl, rfl, rfl, rfl, trivial⟩ (st.dr) ⟨by omega, fun i x y h => by omega⟩ ?_
  clear st
  rintro j w ⟨hj, hall⟩ st
  refine vc_seq (vc_region ?_)
  refine vy (y_lss rfl rfl) ?_
  refine vc_end (vq_then (vk5 0 1 12 13 14 (vc_seq ?_)))
  refine vc_ifs rfl ?_ ?_
  ·intro hc14
   try simp only [dn] at hc14
   obtain ⟨x, hx⟩ : ∃ x, a[j]? = some x := ⟨_, List.getElem?_eq_getElem (by omega)⟩
   obtain ⟨y, hy⟩ : ∃ y, b[j]? = some y := ⟨_, List.getElem?_eq_getElem (by omega)⟩
   obtain ⟨gb, go, rfl, hgS, hgl, hg⟩ := ExRow.at hA (by omega)
   obtain ⟨fb, fo, rfl, hfS, hfl, hf⟩ := ExRow.at hB (by omega)
   obtain ⟨o0, c0, hV0, hr0, hc⟩ := hg j x hx
   obtain ⟨o1, c1, hV1, hr1, hd⟩ := hf j y hy
   have hkx := hok.2 j x hx
   have hz := mem_size hx
   have hz2 : szo x.kids < szo a := by have := szo_kids x; omega
   refine vc_code_skip (vq_then (vk4 0 1 12 13 (vc_seq (vc_block (vc_seq (vc_region ?_))))))
   refine ym ?_
   refine ya ?_
   refine vc_end (vq_then (vk5 0 1 5 12 13 (vc_seq ?_)))
   refine vc_draw Tryz.mixed [(0, true), (1, true), (2, true), (3, true), (4, true), (5, true), (6, true), (7, true), (8, false), (9, true)] (fun w => St _ _ _ w) st (by kernel_rfl) (by repeat (first | exact okQ_body | refine okQ_then ?_ | refine okQ_block ?_)) rfl (by kernel_rfl) ?_
   intro w cd; replace st := st.call0 cd; clear cd
   have hS := st
   iterate 2 refine pm hS ?_
   refine vp_take rfl rfl rfl hS (fun w st => y_ia (k := j) rfl rfl underlying40 sizeOf42 rfl (by omega)) ?_
   refine vp_take rfl rfl rfl hS (fun w st => y_ldca (exL x o0 c0) rfl isAgg42 sizeOf42 rfl (fun i v hi => st.chg.cell (hc i v hi) (by simp))) ?_
   iterate 2 refine pm hS ?_
   refine vp_take rfl rfl rfl hS (fun w st => y_ia (k := j) rfl rfl underlying40 sizeOf42 rfl (by omega)) ?_
   refine vp_take rfl rfl rfl hS (fun w st => y_ldca (exL y o1 c1) rfl isAgg42 sizeOf42 rfl (fun i v hi => st.chg.cell (hd i v hi) (by simp))) ?_
   refine vp_do rfl (e_call [_, _] rfl rfl call17 rfl (rsameE_any x y o0 o1 c0 c1 _ (hr0.kept (Same.of_nil st.chg)) (hr1.kept (Same.of_nil st.chg)) (fun w h1 h2 => ih _ hz2 x.kids rfl hkx.kids y.kids _ _ _ _ w h1 h2)) ?_)
   rintro _ w ⟨rfl, cw⟩
   replace st := st.call0 cw
   refine vp_next (by exact st) ?_; intro hS
   refine vp_take rfl rfl rfl hS (fun w st => y_not rfl) ?_
   refine vp_end (vq_then (vk5 0 1 12 13 25 ?_))
   refine vc_ifs rfl ?_ ?_
   ·intro hc25
    try simp only [dn] at hc25
    refine vc_seq (vc_region ?_)
    refine ya ?_
    refine vc_end (vq_then (vk1 4 (vc_ret (vq_block_ret (vq_then_ret (vq_then_ret (vq_block_ret (vq_then_ret ?_))))))))
    refine vq_ret1 st (.inl rfl) results51 (.tmp rfl) ?_
    refine ⟨_, rfl, ?_⟩
    refine ⟨?_, st.chg⟩
    rw [zipA_no hx hy (by assumption)]
   ·intro hc25
    try simp only [dn] at hc25
    refine vc_code_skip (vq_block (vq_then (vk4 0 1 12 13 (vc_region ?_))))
    refine vy (y_add rfl rfl (by omega : _ = ((j + 1 : Nat) : Int)) (by omega) (by omega)) ?_
    refine ym ?_
    refine vc_end ?_
    refine vq_again (j + 1)  ⟨rfl, rfl, rfl, rfl, trivial⟩ (st.dr) ?_ ?_
    ·exact ⟨by omega, fun i x' y' hi h1 h2 => by
       rcases (by omega : i < j ∨ i = j) with h | rfl
       · exact hall i x' y' h h1 h2
       · rw [hx] at h1; rw [hy] at h2; cases h1; cases h2; assumption⟩
    ·omega
  ·intro hc14
   try simp only [dn] at hc14
   refine vc_exit (vq_then_exit (vq_then_exit (vq_block_exit (vq_then (vc_keep [] trivial (vc_seq (vc_region ?_)))))))
   refine ya ?_
   refine vc_end (vq_then (vk1 4 (vc_ret ?_)))
   refine vq_ret1 st (.inl rfl) results51 (.tmp rfl) ?_
   refine ⟨_, rfl, ?_⟩
   refine ⟨?_, st.chg⟩
   rw [zipA_yes hlen fun i x y hi h1 h2 => hall i x y (by omega) h1 h2]

theorem rplaces_any : ∀ (n : Nat) (a : List Ex), szo a = n → OkEs a → ∀ (b : List Ex) (oa ob : Option Addr) (ca cb : Nat) (w : World), ExRow w S oa a → ExRow w S ob b →
    Ret Tryz.prog 102 [.slice oa a.length ca, .slice ob b.length cb] w fun v w' => v = .bool (zipA plE a b) ∧ Chg [] w w' := by
 intro n
 refine Nat.strongRecOn n fun n ih => ?_
 intro a hn hok b oa ob ca cb w hA hB
 subst hn
 have hn := hok.1
 refine ret_of [_, _] func102 rfl ntmps102 rfl ?_
 have st := St.init w []
 obtain ⟨w0, rfl⟩ : ∃ w0, w0 = w := ⟨_, rfl⟩
 refine vc_seq (vc_region ?_)
 refine ya ?_
 refine vc_end (vq_then (vk2 0 1 (vc_seq (vc_seq (vc_region ?_)))))
 refine ym ?_
 refine vy (y_lensl rfl underlying40) ?_
 refine ym ?_
 refine vy (y_lensl rfl underlying40) ?_
 refine vy (y_nei rfl rfl) ?_
 refine vc_end (vq_then (vk3 0 1 10 ?_))
 refine vc_ifs rfl ?_ ?_
 ·intro hc10
  try simp only [dn] at hc10
  refine vc_seq (vc_region ?_)
  refine ya ?_
  refine vc_end (vq_then (vk1 4 (vc_ret (vq_then_ret ?_))))
  refine vq_ret1 st (.inl rfl) results102 (.tmp rfl) ?_
  refine ⟨_, rfl, ?_⟩
  refine ⟨?_, st.chg⟩
  rw [zipA_len (by omega)]
 ·intro hc10
  try simp only [dn] at hc10
  have hlen : a.length = b.length := by omega
  refine vc_code_skip (vq_then (vk2 0 1 (vc_seq (vc_seq (vc_region ?_)))))
  refine ym ?_
  refine vy (y_lensl rfl underlying40) ?_
  refine ym ?_
  refine vc_end (vq_then (vk4 0 1 12 13 (vc_block ?_)))
  refine vc_loop (w0 := w0) (M := []) (fun (j : Nat) => [(0, .slice oa a.length ca), (1, .slice ob b.length cb), (12, .int .i64 (a.length : Int)), (13, .int .i64 (j : Int))]) (fun _ => []) (fun j _ => j ≤ a.length ∧ ∀ (i : Nat) x y, i < j → a[i]? = some x → b[i]? = some y → plE x y = true) (fun j => a.length - j) 0 ⟨rfl, rfl, rfl, rfl, trivial⟩ (st.dr) ⟨by omega, fun i x y h => by omega⟩ ?_
  clear st
  rintro j w ⟨hj, hall⟩ st
  refine vc_seq (vc_region ?_)
  refine vy (y_lss rfl rfl) ?_
  refine vc_end (vq_then (vk5 0 1 12 13 14 (vc_seq ?_)))
  refine vc_ifs rfl ?_ ?_
  ·intro hc14
   try simp only [dn] at hc14
   obtain ⟨x, hx⟩ : ∃ x, a[j]? = some x := ⟨_, List.getElem?_eq_getElem (by omega)⟩
   obtain ⟨y, hy⟩ : ∃ y, b[j]? = some y := ⟨_, List.getElem?_eq_getElem (by omega)⟩
   obtain ⟨gb, go, rfl, hgS, hgl, hg⟩ := ExRow.at hA (by omega)
   obtain ⟨fb, fo, rfl, hfS, hfl, hf⟩ := ExRow.at hB (by omega)
   obtain ⟨o0, c0, hV0, hr0, hc⟩ := hg j x hx
   obtain ⟨o1, c1, hV1, hr1, hd⟩ := hf j y hy
   have hkx := hok.2 j x hx
   have hz := mem_size hx
   have hz2 : szo x.kids < szo a := by have := szo_kids x; omega
   refine vc_code_skip (vq_then (vk4 0 1 12 13 (vc_seq (vc_block (vc_seq (vc_region ?_))))))
   refine ym ?_
   refine ya ?_
   refine vc_end (vq_then (vk5 0 1 5 12 13 (vc_seq ?_)))
   refine vc_draw Tryz.mixed [(0, true), (1, true), (2, true), (3, true), (4, true), (5, true), (6, true), (7, true), (8, true), (9, true), (10, true), (11, true), (12, true), (13, true), (14, true), (15, true), (16, true), (17, true), (18, true), (19, true), (20, true), (21, true), (22, false), (23, true), (24, true)] (fun w => St _ _ _ w) st (by kernel_rfl) (by repeat (first | exact okQ_body | refine okQ_then ?_ | refine okQ_block ?_)) rfl (by kernel_rfl) ?_
   intro w cd; replace st := st.call0 cd; clear cd
   have hS := st
   iterate 2 refine pm hS ?_
   refine vp_take rfl rfl rfl hS (fun w st => y_ia (k := j) rfl rfl underlying40 sizeOf42 rfl (by omega)) ?_
   refine vp_take rfl rfl rfl hS (fun w st => y_fa (k := 5) rfl underlying42 rfl rfl sizeOf3 rfl) ?_
   refine vp_take rfl rfl rfl hS (fun w st => y_ldc rfl isAgg3 (st.chg.cell (hc 5 _ rfl) (by simp))) ?_
   iterate 2 refine pm hS ?_
   refine vp_take rfl rfl rfl hS (fun w st => y_ia (k := j) rfl rfl underlying40 sizeOf42 rfl (by omega)) ?_
   refine vp_take rfl rfl rfl hS (fun w st => y_fa (k := 5) rfl underlying42 rfl rfl sizeOf3 rfl) ?_
   refine vp_take rfl rfl rfl hS (fun w st => y_ldc rfl isAgg3 (st.chg.cell (hd 5 _ rfl) (by simp))) ?_
   refine vp_take rfl rfl rfl hS (fun w st => y_nei rfl rfl) ?_
   refine vp_part rfl rfl rfl hS rfl ?_ ?_
   ·intro hg27
    try simp only [dn] at hg27
    iterate 10 refine vp_skip rfl rfl rfl hS ?_
    refine vp_do rfl (e_skip rfl rfl (vp_next hS (fun hS => ?_)))
    refine vp_skip rfl rfl rfl hS ?_
    refine vp_take rfl rfl rfl hS (fun w st => y_pickt rfl rfl) ?_
    refine vp_end (vq_then (vk5 0 1 12 13 40 ?_))
    refine vc_ift rfl ?_
    refine vc_seq (vc_region ?_)
    refine ya ?_
    refine vc_end (vq_then (vk1 4 (vc_ret (vq_block_ret (vq_then_ret (vq_then_ret (vq_block_ret (vq_then_ret ?_))))))))
    refine vq_ret1 st (.inl rfl) results102 (.tmp rfl) ?_
    refine ⟨_, rfl, ?_⟩
    refine ⟨?_, st.chg⟩
    rw [zipA_no hx hy (by rw [plE_eq]; simp_all)]
   ·intro hg27
    try simp only [dn] at hg27
    iterate 2 refine pm hS ?_
    refine vp_take rfl rfl rfl hS (fun w st => y_ia (k := j) rfl rfl underlying40 sizeOf42 rfl (by omega)) ?_
    refine vp_take rfl rfl rfl hS (fun w st => y_fa (k := 4) rfl underlying42 rfl rfl sizeOf40 rfl) ?_
    refine vp_take rfl rfl rfl hS (fun w st => y_ldc rfl isAgg40 (st.chg.cell (hc 4 _ rfl) (by simp))) ?_
    iterate 2 refine pm hS ?_
    refine vp_take rfl rfl rfl hS (fun w st => y_ia (k := j) rfl rfl underlying40 sizeOf42 rfl (by omega)) ?_
    refine vp_take rfl rfl rfl hS (fun w st => y_fa (k := 4) rfl underlying42 rfl rfl sizeOf40 rfl) ?_
    refine vp_take rfl rfl rfl hS (fun w st => y_ldc rfl isAgg40 (st.chg.cell (hd 4 _ rfl) (by simp))) ?_
    refine vp_do rfl (e_call [_, _] rfl rfl call102 rfl (ih _ hz2 x.kids rfl hkx.kids y.kids _ _ _ _ _ (hr0.kept (Same.of_nil st.chg)) (hr1.kept (Same.of_nil st.chg))) ?_)
    rintro _ w ⟨rfl, cw⟩
    replace st := st.call0 cw
    refine vp_next (by exact st) ?_; intro hS
    refine vp_take rfl rfl rfl hS (fun w st => y_not rfl) ?_
    refine vp_take rfl rfl rfl hS (fun w st => y_pickf rfl rfl) ?_
    refine vp_end (vq_then (vk5 0 1 12 13 40 ?_))
    refine vc_ifs rfl ?_ ?_
    ·intro hc40
     try simp only [dn] at hc40
     refine vc_seq (vc_region ?_)
     refine ya ?_
     refine vc_end (vq_then (vk1 4 (vc_ret (vq_block_ret (vq_then_ret (vq_then_ret (vq_block_ret (vq_then_ret ?_))))))))
     refine vq_ret1 st (.inl rfl) results102 (.tmp rfl) ?_
     refine ⟨_, rfl, ?_⟩
     refine ⟨?_, st.chg⟩
     rw [zipA_no hx hy (by rw [plE_eq]; simp_all)]
    ·intro hc40
     try simp only [dn] at hc40
     refine vc_code_skip (vq_block (vq_then (vk4 0 1 12 13 (vc_region ?_))))
     refine vy (y_add rfl rfl (by omega : _ = ((j + 1 : Nat) : Int)) (by omega) (by omega)) ?_
     refine ym ?_
     refine vc_end ?_
     refine vq_again (j + 1)  ⟨rfl, rfl, rfl, rfl, trivial⟩ (st.dr) ?_ ?_
     ·exact ⟨by omega, fun i x' y' hi h1 h2 => by
        rcases (by omega : i < j ∨ i = j) with h | rfl
        · exact hall i x' y' h h1 h2
        · rw [hx] at h1; rw [hy] at h2; cases h1; cases h2; (rw [plE_eq]; simp_all)⟩
     ·omega
  ·intro hc14
   try simp only [dn] at hc14
   refine vc_exit (vq_then_exit (vq_then_exit (vq_block_exit (vq_then (vc_keep [] trivial (vc_seq (vc_region ?_)))))))
   refine ya ?_
   refine vc_end (vq_then (vk1 4 (vc_ret ?_)))
   refine vq_ret1 st (.inl rfl) results102 (.tmp rfl) ?_
   refine ⟨_, rfl, ?_⟩
   refine ⟨?_, st.chg⟩
   rw [zipA_yes hlen fun i x y hi h1 h2 => hall i x y (by omega) h1 h2]

set_option maxHeartbeats 1000000 in
theorem rstmtsS_any : ∀ (n : Nat) (a : List Sm), szo a = n → OkSs a → ∀ (b : List Sm) (oa ob : Option Addr) (ca cb : Nat) (w : World), SmRow w S oa a → SmRow w S ob b →
    Ret Tryz.prog 45 [.slice oa a.length ca, .slice ob b.length cb] w fun v w' => v = .bool (zipA sameS a b) ∧ Chg [] w w' := by
 intro n
 refine Nat.strongRecOn n fun n ih => ?_
 intro a hn hok b oa ob ca cb w hA hB
 subst hn
 have hn := hok.1
 refine ret_of [_, _] func45 rfl ntmps45 rfl ?_
 have st := St.init w []
 obtain ⟨w0, rfl⟩ : ∃ w0, w0 = w := ⟨_, rfl⟩
 refine vc_seq (vc_region ?_)
 refine ya ?_
 refine vc_end (vq_then (vk2 0 1 (vc_seq (vc_seq (vc_region ?_)))))
 refine ym ?_
 refine vy (y_lensl rfl underlying65) ?_
 refine ym ?_
 refine vy (y_lensl rfl underlying65) ?_
 refine vy (y_nei rfl rfl) ?_
 refine vc_end (vq_then (vk3 0 1 12 ?_))
 refine vc_ifs rfl ?_ ?_
 ·intro hc12
  try simp only [dn] at hc12
  refine vc_seq (vc_region ?_)
  refine ya ?_
  refine vc_end (vq_then (vk1 4 (vc_ret (vq_then_ret ?_))))
  refine vq_ret1 st (.inl rfl) results45 (.tmp rfl) ?_
  refine ⟨_, rfl, ?_⟩
  refine ⟨?_, st.chg⟩
  rw [zipA_len (by omega)]
 ·intro hc12
  try simp only [dn] at hc12
  have hlen : a.length = b.length := by omega
  refine vc_code_skip (vq_then (vk2 0 1 (vc_seq (vc_seq (vc_region ?_)))))
  refine ym ?_
  refine vy (y_lensl rfl underlying65) ?_
  refine ym ?_
  refine vc_end (vq_then (vk4 0 1 14 15 (vc_block ?_)))
  refine vc_loop (w0 := w0) (M := []) (fun (j : Nat) => [(0, .slice oa a.length ca), (1, .slice ob b.length cb), (14, .int .i64 (a.length : Int)), (15, .int .i64 (j : Int))]) (fun _ => []) (fun j _ => j ≤ a.length ∧ ∀ (i : Nat) x y, i < j → a[i]? = some x → b[i]? = some y → sameS x y = true) (fun j => a.length - j) 0 ⟨rfl, rfl, rfl, rfl, trivial⟩ (st.dr) ⟨by omega, fun i x y h => by omega⟩ ?_
  clear st
  rintro j w ⟨hj, hall⟩ st
  refine vc_seq (vc_region ?_)
  refine vy (y_lss rfl rfl) ?_
  refine vc_end (vq_then (vk5 0 1 14 15 16 (vc_seq ?_)))
  refine vc_ifs rfl ?_ ?_
  ·intro hc16
   try simp only [dn] at hc16
   obtain ⟨x, hx⟩ : ∃ x, a[j]? = some x := ⟨_, List.getElem?_eq_getElem (by omega)⟩
   obtain ⟨y, hy⟩ : ∃ y, b[j]? = some y := ⟨_, List.getElem?_eq_getElem (by omega)⟩
   obtain ⟨gb, go, rfl, hgS, hgl, hg⟩ := SmRow.at hA (by omega)
   obtain ⟨fb, fo, rfl, hfS, hfl, hf⟩ := SmRow.at hB (by omega)
   obtain ⟨oe, obb, ol, ce, cbb, cl, hsV, hse, hsb, hsl, hc⟩ := hg j x hx
   obtain ⟨oe', obb', ol', ce', cbb', cl', hsV', hse', hsb', hsl', hd⟩ := hf j y hy
   have hkx := hok.2 j x hx
   have hz := mem_size hx
   have hB2 : szo x.body < szo a := by have : szo x.body < szo x := by cases x; exact sm_size.1
                                       omega
   have hL2 : szo x.els < szo a := by have : szo x.els < szo x := by cases x; exact sm_size.2
                                      omega
   refine vc_code_skip (vq_then (vk4 0 1 14 15 (vc_seq (vc_block (vc_seq (vc_region ?_))))))
   refine ym ?_
   refine ya ?_
   refine vc_end (vq_then (vk5 0 1 5 14 15 ?_))
   refine vc_cut (w0 := w0) (M := []) (fun (z : Nat × Nat) => [(0, .slice (some ⟨gb, go, none⟩) a.length ca), (1, .slice (some ⟨fb, fo, none⟩) b.length cb), (6, .pointer (some ⟨z.1, 0, none⟩)), (7, .pointer (some ⟨z.2, 0, none⟩)), (14, .int .i64 (a.length : Int)), (15, .int .i64 (j : Int))]) (fun z => [.blk z.1 (.cells [.int .u8 x.k, str x.nm, str x.other, .slice oe x.e.length ce, .slice obb x.body.length cbb, .slice ol x.els.length cl, .int .i64 x.a].toArray 67 (0, 0)), .blk z.2 (.cells [.int .u8 y.k, str y.nm, str y.other, .slice oe' y.e.length ce', .slice obb' y.body.length cbb', .slice ol' y.els.length cl', .int .i64 y.a].toArray 67 (0, 0))]) (fun _ _ => True) ?_ ?_
   ·refine vd_draw Tryz.mixed (.take 0 (.take 1 (.take 2 (.take 3 (.take 4 (.take 5 (.take 6 (.take 7 (.two 8 9 (.one 9 (.one 10 (.one 11 .done))) (.one 8 (.one 10 (.one 11 .done)))))))))))) (fun w => St _ _ _ w) st (by kernel_rfl) (by repeat (first | exact okQ_body | refine okQ_then ?_ | refine okQ_block ?_)) rfl (by kernel_rfl) ?_
    intro w cd; replace st := st.call0 cd; clear cd
    have hS := st
    iterate 2 refine dm hS ?_
    refine vd_take rfl rfl rfl hS (fun w st => y_ia (k := j) rfl rfl underlying65 sizeOf67 rfl (by omega)) ?_
    refine vd_take rfl rfl rfl hS (fun w st => y_ldca (smL x oe obb ol ce cbb cl) rfl isAgg67 sizeOf67 rfl (fun i v hi => st.chg.cell (hc i v hi) (by simp))) ?_
    iterate 2 refine dm hS ?_
    refine vd_take rfl rfl rfl hS (fun w st => y_ia (k := j) rfl rfl underlying65 sizeOf67 rfl (by omega)) ?_
    refine vd_take rfl rfl rfl hS (fun w st => y_ldca (smL y oe' obb' ol' ce' cbb' cl') rfl isAgg67 sizeOf67 rfl (fun i v hi => st.chg.cell (hd i v hi) (by simp))) ?_
    refine vd_two rfl rfl ?_ ?_
    ·refine (e_al (l := [_, _, _, _, _, _, _]) st rfl rfl zeroValue67 rfl ?_)
     intro b6 w hb6 st
     refine vd_next st.dr ?_; intro hS
     refine vd_do rfl (e_al (l := [_, _, _, _, _, _, _]) st rfl rfl zeroValue67 rfl ?_)
     intro b7 w hb7 st
     refine vd_next st.dr ?_; intro hS
     refine vd_do rfl (e_sts (vs := [_, _, _, _, _, _, _]) st 1 rfl rfl rfl rfl rfl sizeOf67 rfl rfl (by (right; assumption)) ?_)
     intro w st; dsimp only [setNth, wr] at st
     refine vd_next st.dr ?_; intro hS
     refine vd_do rfl (e_sts (vs := [_, _, _, _, _, _, _]) st 0 rfl rfl rfl rfl rfl sizeOf67 rfl rfl (by (right; assumption)) ?_)
     intro w st; dsimp only [setNth, wr] at st
     refine vd_next st.dr ?_; intro hS
     refine vd_end ?_
     refine vq_meet (b6, b7) ⟨rfl, rfl, rfl, rfl, rfl, rfl, trivial⟩ (st.pick [1, 0] rfl (by decide)) ?_
     ·trivial
    ·refine (e_al (l := [_, _, _, _, _, _, _]) st rfl rfl zeroValue67 rfl ?_)
     intro b7 w hb7 st
     refine vd_next st.dr ?_; intro hS
     refine vd_do rfl (e_al (l := [_, _, _, _, _, _, _]) st rfl rfl zeroValue67 rfl ?_)
     intro b6 w hb6 st
     refine vd_next st.dr ?_; intro hS
     refine vd_do rfl (e_sts (vs := [_, _, _, _, _, _, _]) st 0 rfl rfl rfl rfl rfl sizeOf67 rfl rfl (by (right; assumption)) ?_)
     intro w st; dsimp only [setNth, wr] at st
     refine vd_next st.dr ?_; intro hS
     refine vd_do rfl (e_sts (vs := [_, _, _, _, _, _, _]) st 1 rfl rfl rfl rfl rfl sizeOf67 rfl rfl (by (right; assumption)) ?_)
     intro w st; dsimp only [setNth, wr] at st
     refine vd_next st.dr ?_; intro hS
     refine vd_end ?_
     refine vq_meet (b6, b7) ⟨rfl, rfl, rfl, rfl, rfl, rfl, trivial⟩ st ?_
     ·trivial
   ·clear st
    rintro ⟨b6, b7⟩ w - st
    dsimp only at *
    refine vc_seq (vc_region ?_)
    refine vy (y_fa0 rfl underlying67 rfl rfl sizeOf64 rfl) ?_
    refine yl st 0 isAgg64 ?_
    refine vy (y_fa0 rfl underlying67 rfl rfl sizeOf64 rfl) ?_
    refine yl st 1 isAgg64 ?_
    refine vy (y_nei rfl rfl) ?_
    refine vmb ?_ ?_
    ·intro hg31
     try simp only [dn] at hg31
     iterate 5 refine vsk ?_
     refine ypt ?_
     refine ym ?_
     iterate 5 refine vsk ?_
     refine ypt ?_
     refine ym ?_
     iterate 6 refine vsk ?_
     refine ypt ?_
     refine ym ?_
     iterate 6 refine vsk ?_
     refine ypt ?_
     refine ym ?_
     iterate 6 refine vsk ?_
     refine ypt ?_
     refine vc_end (vq_then (vk5 0 1 14 15 68 ?_))
     refine vc_ift rfl ?_
     refine vc_seq (vc_region ?_)
     refine ya ?_
     refine vc_end (vq_then (vk1 4 (vc_ret (vq_block_ret (vq_then_ret (vq_then_ret (vq_block_ret (vq_then_ret ?_))))))))
     refine vq_ret1 st (.inl rfl) results45 (.tmp rfl) ?_
     refine ⟨_, rfl, ?_⟩
     refine ⟨?_, st.chg⟩
     rw [zipA_no hx hy (by rw [sameS_eq]; clear st; simp_all)]
    ·intro hg31
     try simp only [dn] at hg31
     refine yfz 1 underlying67 sizeOf9 ?_
     refine yl st 0 isAgg9 ?_
     refine yfz 1 underlying67 sizeOf9 ?_
     refine yl st 1 isAgg9 ?_
     refine vy (y_nes rfl rfl) ?_
     refine ypf ?_
     refine vmb ?_ ?_
     ·intro hg38
      try simp only [dn] at hg38
      iterate 5 refine vsk ?_
      refine ypt ?_
      refine ym ?_
      iterate 6 refine vsk ?_
      refine ypt ?_
      refine ym ?_
      iterate 6 refine vsk ?_
      refine ypt ?_
      refine ym ?_
      iterate 6 refine vsk ?_
      refine ypt ?_
      refine vc_end (vq_then (vk5 0 1 14 15 68 ?_))
      refine vc_ift rfl ?_
      refine vc_seq (vc_region ?_)
      refine ya ?_
      refine vc_end (vq_then (vk1 4 (vc_ret (vq_block_ret (vq_then_ret (vq_then_ret (vq_block_ret (vq_then_ret ?_))))))))
      refine vq_ret1 st (.inl rfl) results45 (.tmp rfl) ?_
      refine ⟨_, rfl, ?_⟩
      refine ⟨?_, st.chg⟩
      rw [zipA_no hx hy (by rw [sameS_eq]; clear st; simp_all)]
     ·intro hg38
      try simp only [dn] at hg38
      refine yfz 2 underlying67 sizeOf9 ?_
      refine yl st 0 isAgg9 ?_
      refine yfz 2 underlying67 sizeOf9 ?_
      refine yl st 1 isAgg9 ?_
      refine vy (y_nes rfl rfl) ?_
      refine ypf ?_
      refine vmb ?_ ?_
      ·intro hg45
       try simp only [dn] at hg45
       iterate 6 refine vsk ?_
       refine ypt ?_
       refine ym ?_
       iterate 6 refine vsk ?_
       refine ypt ?_
       refine ym ?_
       iterate 6 refine vsk ?_
       refine ypt ?_
       refine vc_end (vq_then (vk5 0 1 14 15 68 ?_))
       refine vc_ift rfl ?_
       refine vc_seq (vc_region ?_)
       refine ya ?_
       refine vc_end (vq_then (vk1 4 (vc_ret (vq_block_ret (vq_then_ret (vq_then_ret (vq_block_ret (vq_then_ret ?_))))))))
       refine vq_ret1 st (.inl rfl) results45 (.tmp rfl) ?_
       refine ⟨_, rfl, ?_⟩
       refine ⟨?_, st.chg⟩
       rw [zipA_no hx hy (by rw [sameS_eq]; clear st; simp_all)]
      ·intro hg45
       try simp only [dn] at hg45
       refine yfz 3 underlying67 sizeOf40 ?_
       refine yl st 0 isAgg40 ?_
       refine yfz 3 underlying67 sizeOf40 ?_
       refine yl st 1 isAgg40 ?_
       refine vc_e (e_call [_, _] rfl rfl call51 rfl (rexprsS_any _ x.e rfl hkx.e y.e _ _ _ _ _ (hse.kept (Same.of_nil st.chg)) (hse'.kept (Same.of_nil st.chg))) ?_)
       rintro _ w ⟨rfl, cw⟩
       replace st := st.call0 cw
       refine vy (y_not rfl) ?_
       refine ypf ?_
       refine vmb ?_ ?_
       ·intro hg53
        try simp only [dn] at hg53
        iterate 6 refine vsk ?_
        refine ypt ?_
        refine ym ?_
        iterate 6 refine vsk ?_
        refine ypt ?_
        refine vc_end (vq_then (vk5 0 1 14 15 68 ?_))
        refine vc_ift rfl ?_
        refine vc_seq (vc_region ?_)
        refine ya ?_
        refine vc_end (vq_then (vk1 4 (vc_ret (vq_block_ret (vq_then_ret (vq_then_ret (vq_block_ret (vq_then_ret ?_))))))))
        refine vq_ret1 st (.inl rfl) results45 (.tmp rfl) ?_
        refine ⟨_, rfl, ?_⟩
        refine ⟨?_, st.chg⟩
        rw [zipA_no hx hy (by rw [sameS_eq]; clear st; simp_all)]
       ·intro hg53
        try simp only [dn] at hg53
        refine yfz 4 underlying67 sizeOf65 ?_
        refine yl st 0 isAgg65 ?_
        refine yfz 4 underlying67 sizeOf65 ?_
        refine yl st 1 isAgg65 ?_
        refine vc_e (e_call [_, _] rfl rfl call45 rfl (ih _ hB2 x.body rfl hkx.body y.body _ _ _ _ _ (hsb.kept (Same.of_nil st.chg)) (hsb'.kept (Same.of_nil st.chg))) ?_)
        rintro _ w ⟨rfl, cw⟩
        replace st := st.call0 cw
        refine vy (y_not rfl) ?_
        refine ypf ?_
        refine vmb ?_ ?_
        ·intro hg61
         try simp only [dn] at hg61
         iterate 6 refine vsk ?_
         refine ypt ?_
         refine vc_end (vq_then (vk5 0 1 14 15 68 ?_))
         refine vc_ift rfl ?_
         refine vc_seq (vc_region ?_)
         refine ya ?_
         refine vc_end (vq_then (vk1 4 (vc_ret (vq_block_ret (vq_then_ret (vq_then_ret (vq_block_ret (vq_then_ret ?_))))))))
         refine vq_ret1 st (.inl rfl) results45 (.tmp rfl) ?_
         refine ⟨_, rfl, ?_⟩
         refine ⟨?_, st.chg⟩
         rw [zipA_no hx hy (by rw [sameS_eq]; clear st; simp_all)]
        ·intro hg61
         try simp only [dn] at hg61
         refine yfz 5 underlying67 sizeOf65 ?_
         refine yl st 0 isAgg65 ?_
         refine yfz 5 underlying67 sizeOf65 ?_
         refine yl st 1 isAgg65 ?_
         refine vc_e (e_call [_, _] rfl rfl call45 rfl (ih _ hL2 x.els rfl hkx.els y.els _ _ _ _ _ (hsl.kept (Same.of_nil st.chg)) (hsl'.kept (Same.of_nil st.chg))) ?_)
         rintro _ w ⟨rfl, cw⟩
         replace st := st.call0 cw
         refine vy (y_not rfl) ?_
         refine ypf ?_
         refine vc_end (vq_then (vk5 0 1 14 15 68 ?_))
         refine vc_ifs rfl ?_ ?_
         ·intro hc68
          try simp only [dn] at hc68
          refine vc_seq (vc_region ?_)
          refine ya ?_
          refine vc_end (vq_then (vk1 4 (vc_ret (vq_block_ret (vq_then_ret (vq_then_ret (vq_block_ret (vq_then_ret ?_))))))))
          refine vq_ret1 st (.inl rfl) results45 (.tmp rfl) ?_
          refine ⟨_, rfl, ?_⟩
          refine ⟨?_, st.chg⟩
          rw [zipA_no hx hy (by rw [sameS_eq]; clear st; simp_all)]
         ·intro hc68
          try simp only [dn] at hc68
          refine vc_code_skip (vq_block (vq_then (vk4 0 1 14 15 (vc_region ?_))))
          refine vy (y_add rfl rfl (by omega : _ = ((j + 1 : Nat) : Int)) (by omega) (by omega)) ?_
          refine ym ?_
          refine vc_end ?_
          refine vq_again (j + 1)  ⟨rfl, rfl, rfl, rfl, trivial⟩ (st.dr) ?_ ?_
          ·exact ⟨by omega, fun i x' y' hi h1 h2 => by
             rcases (by omega : i < j ∨ i = j) with h | rfl
             · exact hall i x' y' h h1 h2
             · rw [hx] at h1; rw [hy] at h2; cases h1; cases h2; (rw [sameS_eq]; clear st; simp_all)⟩
          ·omega
  ·intro hc16
   try simp only [dn] at hc16
   refine vc_exit (vq_then_exit (vq_then_exit (vq_block_exit (vq_then (vc_keep [] trivial (vc_seq (vc_region ?_)))))))
   refine ya ?_
   refine vc_end (vq_then (vk1 4 (vc_ret ?_)))
   refine vq_ret1 st (.inl rfl) results45 (.tmp rfl) ?_
   refine ⟨_, rfl, ?_⟩
   refine ⟨?_, st.chg⟩
   rw [zipA_yes hlen fun i x y hi h1 h2 => hall i x y (by omega) h1 h2]

set_option maxHeartbeats 1000000 in
theorem rplacesS_any : ∀ (n : Nat) (a : List Sm), szo a = n → OkSs a → ∀ (b : List Sm) (oa ob : Option Addr) (ca cb : Nat) (w : World), SmRow w S oa a → SmRow w S ob b →
    Ret Tryz.prog 43 [.slice oa a.length ca, .slice ob b.length cb] w fun v w' => v = .bool (zipA plS a b) ∧ Chg [] w w' := by
 intro n
 refine Nat.strongRecOn n fun n ih => ?_
 intro a hn hok b oa ob ca cb w hA hB
 subst hn
 have hn := hok.1
 refine ret_of [_, _] func43 rfl ntmps43 rfl ?_
 have st := St.init w []
 obtain ⟨w0, rfl⟩ : ∃ w0, w0 = w := ⟨_, rfl⟩
 refine vc_seq (vc_region ?_)
 refine ya ?_
 refine vc_end (vq_then (vk2 0 1 (vc_seq (vc_seq (vc_region ?_)))))
 refine ym ?_
 refine vy (y_lensl rfl underlying65) ?_
 refine ym ?_
 refine vy (y_lensl rfl underlying65) ?_
 refine vy (y_nei rfl rfl) ?_
 refine vc_end (vq_then (vk3 0 1 10 ?_))
 refine vc_ifs rfl ?_ ?_
 ·intro hc10
  try simp only [dn] at hc10
  refine vc_seq (vc_region ?_)
  refine ya ?_
  refine vc_end (vq_then (vk1 4 (vc_ret (vq_then_ret ?_))))
  refine vq_ret1 st (.inl rfl) results43 (.tmp rfl) ?_
  refine ⟨_, rfl, ?_⟩
  refine ⟨?_, st.chg⟩
  rw [zipA_len (by omega)]
 ·intro hc10
  try simp only [dn] at hc10
  have hlen : a.length = b.length := by omega
  refine vc_code_skip (vq_then (vk2 0 1 (vc_seq (vc_seq (vc_region ?_)))))
  refine ym ?_
  refine vy (y_lensl rfl underlying65) ?_
  refine ym ?_
  refine vc_end (vq_then (vk4 0 1 12 13 (vc_block ?_)))
  refine vc_loop (w0 := w0) (M := []) (fun (j : Nat) => [(0, .slice oa a.length ca), (1, .slice ob b.length cb), (12, .int .i64 (a.length : Int)), (13, .int .i64 (j : Int))]) (fun _ => []) (fun j _ => j ≤ a.length ∧ ∀ (i : Nat) x y, i < j → a[i]? = some x → b[i]? = some y → plS x y = true) (fun j => a.length - j) 0 ⟨rfl, rfl, rfl, rfl, trivial⟩ (st.dr) ⟨by omega, fun i x y h => by omega⟩ ?_
  clear st
  rintro j w ⟨hj, hall⟩ st
  refine vc_seq (vc_region ?_)
  refine vy (y_lss rfl rfl) ?_
  refine vc_end (vq_then (vk5 0 1 12 13 14 (vc_seq ?_)))
  refine vc_ifs rfl ?_ ?_
  ·intro hc14
   try simp only [dn] at hc14
   obtain ⟨x, hx⟩ : ∃ x, a[j]? = some x := ⟨_, List.getElem?_eq_getElem (by omega)⟩
   obtain ⟨y, hy⟩ : ∃ y, b[j]? = some y := ⟨_, List.getElem?_eq_getElem (by omega)⟩
   obtain ⟨gb, go, rfl, hgS, hgl, hg⟩ := SmRow.at hA (by omega)
   obtain ⟨fb, fo, rfl, hfS, hfl, hf⟩ := SmRow.at hB (by omega)
   obtain ⟨oe, obb, ol, ce, cbb, cl, hsV, hse, hsb, hsl, hc⟩ := hg j x hx
   obtain ⟨oe', obb', ol', ce', cbb', cl', hsV', hse', hsb', hsl', hd⟩ := hf j y hy
   have hkx := hok.2 j x hx
   have hz := mem_size hx
   have hB2 : szo x.body < szo a := by have : szo x.body < szo x := by cases x; exact sm_size.1
                                       omega
   have hL2 : szo x.els < szo a := by have : szo x.els < szo x := by cases x; exact sm_size.2
                                      omega
   refine vc_code_skip (vq_then (vk4 0 1 12 13 (vc_seq (vc_block (vc_seq (vc_region ?_))))))
   refine ym ?_
   refine ya ?_
   refine vc_end (vq_then (vk5 0 1 5 12 13 (vc_seq ?_)))
   refine vc_draw Tryz.mixed [(0, true), (1, true), (2, true), (3, true), (4, true), (5, true), (6, true), (7, true), (8, true), (9, true), (10, true), (11, true), (12, true), (13, true), (14, true), (15, true), (16, true), (17, true), (18, true), (19, true), (20, true), (21, true), (22, false), (23, true), (24, true), (25, true), (26, true), (27, true), (28, true), (29, true), (30, true), (31, true), (32, true), (33, true), (34, true), (35, true), (36, false), (37, true), (38, true), (39, true), (40, true), (41, true), (42, true), (43, true), (44, true), (45, true), (46, true), (47, true), (48, true), (49, true), (50, false), (51, true), (52, true)] (fun w => St _ _ _ w) st (by kernel_rfl) (by repeat (first | exact okQ_body | refine okQ_then ?_ | refine okQ_block ?_)) rfl (by kernel_rfl) ?_
   intro w cd; replace st := st.call0 cd; clear cd
   have hS := st
   iterate 2 refine pm hS ?_
   refine vp_take rfl rfl rfl hS (fun w st => y_ia (k := j) rfl rfl underlying65 sizeOf67 rfl (by omega)) ?_
   refine vp_take rfl rfl rfl hS (fun w st => y_fa (k := 6) rfl underlying67 rfl rfl sizeOf3 rfl) ?_
   refine vp_take rfl rfl rfl hS (fun w st => y_ldc rfl isAgg3 (st.chg.cell (hc 6 _ rfl) (by simp))) ?_
   iterate 2 refine pm hS ?_
   refine vp_take rfl rfl rfl hS (fun w st => y_ia (k := j) rfl rfl underlying65 sizeOf67 rfl (by omega)) ?_
   refine vp_take rfl rfl rfl hS (fun w st => y_fa (k := 6) rfl underlying67 rfl rfl sizeOf3 rfl) ?_
   refine vp_take rfl rfl rfl hS (fun w st => y_ldc rfl isAgg3 (st.chg.cell (hd 6 _ rfl) (by simp))) ?_
   refine vp_take rfl rfl rfl hS (fun w st => y_nei rfl rfl) ?_
   refine vp_part rfl rfl rfl hS rfl ?_ ?_
   ·intro hg27
    try simp only [dn] at hg27
    iterate 10 refine vp_skip rfl rfl rfl hS ?_
    refine vp_do rfl (e_skip rfl rfl (vp_next hS (fun hS => ?_)))
    refine vp_skip rfl rfl rfl hS ?_
    refine vp_take rfl rfl rfl hS (fun w st => y_pickt rfl rfl) ?_
    refine pm hS ?_
    iterate 10 refine vp_skip rfl rfl rfl hS ?_
    refine vp_do rfl (e_skip rfl rfl (vp_next hS (fun hS => ?_)))
    refine vp_skip rfl rfl rfl hS ?_
    refine vp_take rfl rfl rfl hS (fun w st => y_pickt rfl rfl) ?_
    refine pm hS ?_
    iterate 10 refine vp_skip rfl rfl rfl hS ?_
    refine vp_do rfl (e_skip rfl rfl (vp_next hS (fun hS => ?_)))
    refine vp_skip rfl rfl rfl hS ?_
    refine vp_take rfl rfl rfl hS (fun w st => y_pickt rfl rfl) ?_
    refine vp_end (vq_then (vk5 0 1 12 13 68 ?_))
    refine vc_ift rfl ?_
    refine vc_seq (vc_region ?_)
    refine ya ?_
    refine vc_end (vq_then (vk1 4 (vc_ret (vq_block_ret (vq_then_ret (vq_then_ret (vq_block_ret (vq_then_ret ?_))))))))
    refine vq_ret1 st (.inl rfl) results43 (.tmp rfl) ?_
    refine ⟨_, rfl, ?_⟩
    refine ⟨?_, st.chg⟩
    rw [zipA_no hx hy (by rw [plS_eq]; clear st; simp_all)]
   ·intro hg27
    try simp only [dn] at hg27
    iterate 2 refine pm hS ?_
    refine vp_take rfl rfl rfl hS (fun w st => y_ia (k := j) rfl rfl underlying65 sizeOf67 rfl (by omega)) ?_
    refine vp_take rfl rfl rfl hS (fun w st => y_fa (k := 3) rfl underlying67 rfl rfl sizeOf40 rfl) ?_
    refine vp_take rfl rfl rfl hS (fun w st => y_ldc rfl isAgg40 (st.chg.cell (hc 3 _ rfl) (by simp))) ?_
    iterate 2 refine pm hS ?_
    refine vp_take rfl rfl rfl hS (fun w st => y_ia (k := j) rfl rfl underlying65 sizeOf67 rfl (by omega)) ?_
    refine vp_take rfl rfl rfl hS (fun w st => y_fa (k := 3) rfl underlying67 rfl rfl sizeOf40 rfl) ?_
    refine vp_take rfl rfl rfl hS (fun w st => y_ldc rfl isAgg40 (st.chg.cell (hd 3 _ rfl) (by simp))) ?_
    refine vp_do rfl (e_call [_, _] rfl rfl call102 rfl (rplaces_any _ x.e rfl hkx.e y.e _ _ _ _ _ (hse.kept (Same.of_nil st.chg)) (hse'.kept (Same.of_nil st.chg))) ?_)
    rintro _ w ⟨rfl, cw⟩
    replace st := st.call0 cw
    refine vp_next (by exact st) ?_; intro hS
    refine vp_take rfl rfl rfl hS (fun w st => y_not rfl) ?_
    refine vp_take rfl rfl rfl hS (fun w st => y_pickf rfl rfl) ?_
    refine vp_part rfl rfl rfl hS rfl ?_ ?_
    ·intro hg41
     try simp only [dn] at hg41
     iterate 10 refine vp_skip rfl rfl rfl hS ?_
     refine vp_do rfl (e_skip rfl rfl (vp_next hS (fun hS => ?_)))
     refine vp_skip rfl rfl rfl hS ?_
     refine vp_take rfl rfl rfl hS (fun w st => y_pickt rfl rfl) ?_
     refine pm hS ?_
     iterate 10 refine vp_skip rfl rfl rfl hS ?_
     refine vp_do rfl (e_skip rfl rfl (vp_next hS (fun hS => ?_)))
     refine vp_skip rfl rfl rfl hS ?_
     refine vp_take rfl rfl rfl hS (fun w st => y_pickt rfl rfl) ?_
     refine vp_end (vq_then (vk5 0 1 12 13 68 ?_))
     refine vc_ift rfl ?_
     refine vc_seq (vc_region ?_)
     refine ya ?_
     refine vc_end (vq_then (vk1 4 (vc_ret (vq_block_ret (vq_then_ret (vq_then_ret (vq_block_ret (vq_then_ret ?_))))))))
     refine vq_ret1 st (.inl rfl) results43 (.tmp rfl) ?_
     refine ⟨_, rfl, ?_⟩
     refine ⟨?_, st.chg⟩
     rw [zipA_no hx hy (by rw [plS_eq]; clear st; simp_all)]
    ·intro hg41
     try simp only [dn] at hg41
     iterate 2 refine pm hS ?_
     refine vp_take rfl rfl rfl hS (fun w st => y_ia (k := j) rfl rfl underlying65 sizeOf67 rfl (by omega)) ?_
     refine vp_take rfl rfl rfl hS (fun w st => y_fa (k := 4) rfl underlying67 rfl rfl sizeOf65 rfl) ?_
     refine vp_take rfl rfl rfl hS (fun w st => y_ldc rfl isAgg65 (st.chg.cell (hc 4 _ rfl) (by simp))) ?_
     iterate 2 refine pm hS ?_
     refine vp_take rfl rfl rfl hS (fun w st => y_ia (k := j) rfl rfl underlying65 sizeOf67 rfl (by omega)) ?_
     refine vp_take rfl rfl rfl hS (fun w st => y_fa (k := 4) rfl underlying67 rfl rfl sizeOf65 rfl) ?_
     refine vp_take rfl rfl rfl hS (fun w st => y_ldc rfl isAgg65 (st.chg.cell (hd 4 _ rfl) (by simp))) ?_
     refine vp_do rfl (e_call [_, _] rfl rfl call43 rfl (ih _ hB2 x.body rfl hkx.body y.body _ _ _ _ _ (hsb.kept (Same.of_nil st.chg)) (hsb'.kept (Same.of_nil st.chg))) ?_)
     rintro _ w ⟨rfl, cw⟩
     replace st := st.call0 cw
     refine vp_next (by exact st) ?_; intro hS
     refine vp_take rfl rfl rfl hS (fun w st => y_not rfl) ?_
     refine vp_take rfl rfl rfl hS (fun w st => y_pickf rfl rfl) ?_
     refine vp_part rfl rfl rfl hS rfl ?_ ?_
     ·intro hg55
      try simp only [dn] at hg55
      iterate 10 refine vp_skip rfl rfl rfl hS ?_
      refine vp_do rfl (e_skip rfl rfl (vp_next hS (fun hS => ?_)))
      refine vp_skip rfl rfl rfl hS ?_
      refine vp_take rfl rfl rfl hS (fun w st => y_pickt rfl rfl) ?_
      refine vp_end (vq_then (vk5 0 1 12 13 68 ?_))
      refine vc_ift rfl ?_
      refine vc_seq (vc_region ?_)
      refine ya ?_
      refine vc_end (vq_then (vk1 4 (vc_ret (vq_block_ret (vq_then_ret (vq_then_ret (vq_block_ret (vq_then_ret ?_))))))))
      refine vq_ret1 st (.inl rfl) results43 (.tmp rfl) ?_
      refine ⟨_, rfl, ?_⟩
      refine ⟨?_, st.chg⟩
      rw [zipA_no hx hy (by rw [plS_eq]; clear st; simp_all)]
     ·intro hg55
      try simp only [dn] at hg55
      iterate 2 refine pm hS ?_
      refine vp_take rfl rfl rfl hS (fun w st => y_ia (k := j) rfl rfl underlying65 sizeOf67 rfl (by omega)) ?_
      refine vp_take rfl rfl rfl hS (fun w st => y_fa (k := 5) rfl underlying67 rfl rfl sizeOf65 rfl) ?_
      refine vp_take rfl rfl rfl hS (fun w st => y_ldc rfl isAgg65 (st.chg.cell (hc 5 _ rfl) (by simp))) ?_
      iterate 2 refine pm hS ?_
      refine vp_take rfl rfl rfl hS (fun w st => y_ia (k := j) rfl rfl underlying65 sizeOf67 rfl (by omega)) ?_
      refine vp_take rfl rfl rfl hS (fun w st => y_fa (k := 5) rfl underlying67 rfl rfl sizeOf65 rfl) ?_
      refine vp_take rfl rfl rfl hS (fun w st => y_ldc rfl isAgg65 (st.chg.cell (hd 5 _ rfl) (by simp))) ?_
      refine vp_do rfl (e_call [_, _] rfl rfl call43 rfl (ih _ hL2 x.els rfl hkx.els y.els _ _ _ _ _ (hsl.kept (Same.of_nil st.chg)) (hsl'.kept (Same.of_nil st.chg))) ?_)
      rintro _ w ⟨rfl, cw⟩
      replace st := st.call0 cw
      refine vp_next (by exact st) ?_; intro hS
      refine vp_take rfl rfl rfl hS (fun w st => y_not rfl) ?_
      refine vp_take rfl rfl rfl hS (fun w st => y_pickf rfl rfl) ?_
      refine vp_end (vq_then (vk5 0 1 12 13 68 ?_))
      refine vc_ifs rfl ?_ ?_
      ·intro hc68
       try simp only [dn] at hc68
       refine vc_seq (vc_region ?_)
       refine ya ?_
       refine vc_end (vq_then (vk1 4 (vc_ret (vq_block_ret (vq_then_ret (vq_then_ret (vq_block_ret (vq_then_ret ?_))))))))
       refine vq_ret1 st (.inl rfl) results43 (.tmp rfl) ?_
       refine ⟨_, rfl, ?_⟩
       refine ⟨?_, st.chg⟩
       rw [zipA_no hx hy (by rw [plS_eq]; clear st; simp_all)]
      ·intro hc68
       try simp only [dn] at hc68
       refine vc_code_skip (vq_block (vq_then (vk4 0 1 12 13 (vc_region ?_))))
       refine vy (y_add rfl rfl (by omega : _ = ((j + 1 : Nat) : Int)) (by omega) (by omega)) ?_
       refine ym ?_
       refine vc_end ?_
       refine vq_again (j + 1)  ⟨rfl, rfl, rfl, rfl, trivial⟩ (st.dr) ?_ ?_
       ·exact ⟨by omega, fun i x' y' hi h1 h2 => by
          rcases (by omega : i < j ∨ i = j) with h | rfl
          · exact hall i x' y' h h1 h2
          · rw [hx] at h1; rw [hy] at h2; cases h1; cases h2; (rw [plS_eq]; clear st; simp_all)⟩
       ·omega
  ·intro hc14
   try simp only [dn] at hc14
   refine vc_exit (vq_then_exit (vq_then_exit (vq_block_exit (vq_then (vc_keep [] trivial (vc_seq (vc_region ?_)))))))
   refine ya ?_
   refine vc_end (vq_then (vk1 4 (vc_ret ?_)))
   refine vq_ret1 st (.inl rfl) results43 (.tmp rfl) ?_
   refine ⟨_, rfl, ?_⟩
   refine ⟨?_, st.chg⟩
   rw [zipA_yes hlen fun i x y hi h1 h2 => hall i x y (by omega) h1 h2]

end
end Go.Proofs.YtnmhlpnapgojjaaGreatDoor

