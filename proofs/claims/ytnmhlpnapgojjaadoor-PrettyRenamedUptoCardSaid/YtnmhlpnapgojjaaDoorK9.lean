/- A part of the proof: contracts of functions and plain laws; each theorem says its own conditions. -/
import Derived.Test.YtnmhlpnapgojjaaDoorK6
import Derived.Test.YtnmhlpnapgojjaaDoorK8
import Derived.Test.YtnmhlpnapgojjaaDoorK2
namespace Go.Proofs.YtnmhlpnapgojjaaDoor
open Go.RowKit Sx LexS
set_option linter.unusedVariables false
set_option linter.unusedSimpArgs false
section
variable {n0 : Nat}
theorem WrP.swap {E T bw : Nat} {v : Value} {F G G' : List UInt8} {w w' : World} (p : WrP E n0 T bw v (F ++ G') w w') (h : G' = G ∨ 65536 < G'.length ∧ 65536 < G.length) : WrP E n0 T bw v (F ++ G) w w' :=
  p.re fun l m v' hb hws => hws.swap h
theorem TxR.same {G r : List UInt8} (h : TxR [] G r) (A B : List UInt8) : A ++ r ++ B = A ++ G ++ B ∨ 65536 < (A ++ r ++ B).length ∧ 65536 < (A ++ G ++ B).length := by
  obtain ⟨h1, h2, -, -⟩ := h
  simp only [List.length_nil, Nat.zero_add, List.nil_append] at h1 h2
  rcases Nat.lt_or_ge 65536 G.length with h | h
  · have := h2 h
    exact .inr ⟨by simp; omega, by simp; omega⟩
  · rw [h1 h]; exact .inl rfl

theorem wskip_any (s : Sm) (hk : s.k = 7) (d : Nat) (hd : d ≤ 64) (oe ob ol : Option Addr) (ce cb cl : Nat) (bw : Nat) (v : Value) (F : List UInt8) (w : World) (hW : Wr 5 n0 47 bw v F w) (hn0 : n0 ≤ w.heap.size) :
    Ret Tryd.prog 56 [.pointer (some ⟨bw, 0, none⟩), .agg (smL s oe ob ol ce cb cl).toArray, .int .i64 (d : Int)] w fun r w' => r = .tuple #[] ∧ WrP 5 n0 47 bw v (F ++ txtS s d) w w' := by
  refine ret_of [_, _, _] Tryd.func56 rfl Tryd.ntmps56 rfl ?_
  have st := St.init w []
  clear st
  obtain ⟨w0, rfl⟩ : ∃ w0, w0 = w := ⟨_, rfl⟩
  have st := St.wrInit hW
  refine vc_seq ?_
  refine vc_region ?_
  refine vc_e (e_bx (l := [_, _, _, _, _, _, _]) st rfl rfl rfl rfl ?_)
  intro b4 w hb4 st
  refine vc_end ?_
  refine vq_then ?_
  refine vc_keep [(0, _), (2, _)] ⟨rfl, rfl, trivial⟩ ?_
  refine vc_region ?_
  refine vc_y rfl rfl (y_mv rfl) ?_
  refine vc_y rfl rfl (y_mv rfl) ?_
  refine vc_e (e_bsn (l := [[115, 107, 105, 112, 59]].map str) (E := 9) st [(0, _)] rfl rfl rfl (fun w => by simp [Instr.buildSlice, run_underlying Tryd.underlying36, Tryd.sizeOf9, Tryd.zeroValue9, Instr.fill, newRow, newObj, Sem.run, go_sem]) ?_)
  intro b8 w hb8 st
  refine vc_e (e_call [_, _, _] rfl rfl Tryd.call20 rfl (line_any repeat_any bw _ _ d (by omega) [[115, 107, 105, 112, 59]] (by simp) (by simp) b8 _ _ (st.wrGet (i := 2) rfl) (Nat.le_trans hn0 st.chg.size) (fun j x hx => cell_nth (st.res (i := 0) rfl) (strs_nth hx)) (fun hk => apart_nth st.nodup (i := 0) (j := 2) (by decide) rfl rfl _ (.head _) hk)) ?_)
  rintro _ w ⟨rfl, hp⟩
  obtain ⟨v9, st⟩ := st.wr (i := 2) rfl hp
  dsimp only [setNth] at st
  refine vc_end ?_
  refine vq_ret0 (.inr rfl) Tryd.results56 ?_
  refine ⟨_, rfl, ?_⟩
  refine ⟨rfl, (st.wrDone (i := 2) rfl).eq ?_⟩
  rw [txtS_flat (by omega)]
  unfold hdS
  rw [hk]
  simp

theorem wprintS_any (s : Sm) (hk : s.k = 6) (d : Nat) (hd : d ≤ 64) (hR : rightS s d = true) (hok : OkS s) (oe ob ol : Option Addr) (ce cb cl : Nat) (bw : Nat) (v : Value) (F : List UInt8) (w : World) (hse : ExRow w (· < n0) oe s.e) (hW : Wr 5 n0 47 bw v F w) (hn0 : n0 ≤ w.heap.size) (h0 : 0 < n0) (hsg : Sig w) (hlx : (txX s.e).length ≤ 1099511627776) :
    Ret Tryd.prog 55 [.pointer (some ⟨bw, 0, none⟩), .agg (smL s oe ob ol ce cb cl).toArray, .int .i64 (d : Int)] w fun r w' => r = .tuple #[] ∧ WrP 5 n0 47 bw v (F ++ txtS s d) w w' := by
  refine ret_of [_, _, _] Tryd.func55 rfl Tryd.ntmps55 rfl ?_
  have st := St.init w []
  clear st
  obtain ⟨w0, rfl⟩ : ∃ w0, w0 = w := ⟨_, rfl⟩
  have st := St.wrInit hW
  have hsame : ∀ {w1 : World}, Chg (bw :: v.ownBlock.toList) w0 w1 → Same (· < n0) w0 w1 := fun c => hW.same c
  obtain ⟨⟨r1, r1b⟩, r2, r3, r4, r5, r6, r7, r8, r9⟩ := rightS_iff.1 hR
  obtain ⟨x, hx, hlen, hRx⟩ := rightX_inv (by unfold hasE; simp only [decide_eq_true_eq]; omega) r4
  have hxt := txX_eq hx
  have hkx := hok.e.2 0 x hx
  rw [hxt] at hlx
  refine vc_seq ?_
  refine vc_region ?_
  refine vc_e (e_bx (l := [_, _, _, _, _, _, _]) st rfl rfl rfl rfl ?_)
  intro b4 w hb4 st
  refine vc_end ?_
  refine vq_then ?_
  refine vc_keep [(0, _), (2, _), (4, _)] ⟨rfl, rfl, rfl, trivial⟩ ?_
  refine vc_region ?_
  refine vc_y rfl rfl (y_mv rfl) ?_
  refine vc_y rfl rfl (y_mv rfl) ?_
  refine vc_y rfl rfl ((by exact y_faz (k := 3) rfl Tryd.underlying70 rfl rfl Tryd.sizeOf61 rfl)) ?_
  refine vc_y rfl rfl ((by exact y_ld st 0 rfl Tryd.isAgg61 rfl rfl)) ?_
  refine vc_e (e_call [_] rfl rfl Tryd.call85 rfl (first_any s.e x hx 0 hRx hkx _ _ _ (hse.kept (hsame st.chg)) (Nat.le_trans hn0 st.chg.size) h0 (hsg.kept' st.chg (hW.notin h0)) hlx) ?_)
  rintro _ w ⟨r, rfl, hT, cw⟩
  replace st := st.call0 cw
  have hTl := hT.2.2.1
  simp only [List.length_nil, Nat.zero_add] at hTl
  refine vc_e (e_bsn (l := [[112, 114, 105, 110, 116, 32], r, [59]].map str) (E := 9) st [(0, _), (1, _), (2, _)] rfl rfl rfl (fun w => by simp [Instr.buildSlice, run_underlying Tryd.underlying36, Tryd.sizeOf9, Tryd.zeroValue9, Instr.fill, newRow, newObj, Sem.run, go_sem]) ?_)
  intro b11 w hb11 st
  refine vc_e (e_call [_, _, _] rfl rfl Tryd.call20 rfl (line_any repeat_any bw _ _ d (by omega) [[112, 114, 105, 110, 116, 32], r, [59]] (by simp) (by simp; omega) b11 _ _ (st.wrGet (i := 2) rfl) (Nat.le_trans hn0 st.chg.size) (fun j x hx => cell_nth (st.res (i := 0) rfl) (strs_nth hx)) (fun hk => apart_nth st.nodup (i := 0) (j := 2) (by decide) rfl rfl _ (.head _) hk)) ?_)
  rintro _ w ⟨rfl, hp⟩
  obtain ⟨v9, st⟩ := st.wr (i := 2) rfl hp
  dsimp only [setNth] at st
  refine vc_end ?_
  refine vq_ret0 (.inr rfl) Tryd.results55 ?_
  refine ⟨_, rfl, ?_⟩
  refine ⟨rfl, WrP.swap (st.wrDone (i := 2) rfl) ?_⟩
  rw [txtS_flat (by omega)]
  unfold hdS
  rw [hk, hxt]
  have h := hT.same (mar d ++ [112, 114, 105, 110, 116, 32]) [59, 10]
  simpa [List.append_assoc] using h

theorem wassign_any (s : Sm) (hk : s.k = 1) (d : Nat) (hd : d ≤ 64) (hR : rightS s d = true) (hok : OkS s) (oe ob ol : Option Addr) (ce cb cl : Nat) (bw : Nat) (v : Value) (F : List UInt8) (w : World) (hse : ExRow w (· < n0) oe s.e) (hW : Wr 5 n0 47 bw v F w) (hn0 : n0 ≤ w.heap.size) (h0 : 0 < n0) (hsg : Sig w) (hlx : (txX s.e).length ≤ 1099511627776) :
    Ret Tryd.prog 51 [.pointer (some ⟨bw, 0, none⟩), .agg (smL s oe ob ol ce cb cl).toArray, .int .i64 (d : Int)] w fun r w' => r = .tuple #[] ∧ WrP 5 n0 47 bw v (F ++ txtS s d) w w' := by
  refine ret_of [_, _, _] Tryd.func51 rfl Tryd.ntmps51 rfl ?_
  have st := St.init w []
  clear st
  obtain ⟨w0, rfl⟩ : ∃ w0, w0 = w := ⟨_, rfl⟩
  have st := St.wrInit hW
  have hsame : ∀ {w1 : World}, Chg (bw :: v.ownBlock.toList) w0 w1 → Same (· < n0) w0 w1 := fun c => hW.same c
  obtain ⟨⟨r1, r1b⟩, r2, r3, r4, r5, r6, r7, r8, r9⟩ := rightS_iff.1 hR
  obtain ⟨x, hx, hlen, hRx⟩ := rightX_inv (by unfold hasE; simp only [decide_eq_true_eq]; omega) r4
  have hxt := txX_eq hx
  have hkx := hok.e.2 0 x hx
  rw [hxt] at hlx
  have hnm : s.nm.length ≤ 32 := by
    rw [show hasN s.k = true by unfold hasN; simp only [decide_eq_true_eq]; omega] at r2
    exact isName_le (by simpa [nmOk] using r2)
  refine vc_seq ?_
  refine vc_region ?_
  refine vc_e (e_bx (l := [_, _, _, _, _, _, _]) st rfl rfl rfl rfl ?_)
  intro b4 w hb4 st
  refine vc_end ?_
  refine vq_then ?_
  refine vc_keep [(0, _), (2, _), (4, _)] ⟨rfl, rfl, rfl, trivial⟩ ?_
  refine vc_draw Tryd.mixed [(0, true), (1, true), (2, true), (3, true), (4, true), (5, true), (6, false), (7, false), (8, false)] (fun w => St _ _ [.blk b4 (.cells (smL s oe ob ol ce cb cl).toArray 70 (0, 0))] w) (by exact st.drop (by repeat (first | exact sl0 | apply sl1 | apply sl2))) (by kernel_rfl) (by repeat (first | exact okQ_body | refine okQ_then ?_ | refine okQ_block ?_)) rfl (by kernel_rfl) ?_
  intro w cd; replace st := st.call0 cd; clear cd
  have hS : St _ _ [.blk b4 (.cells (smL s oe ob ol ce cb cl).toArray 70 (0, 0))] w := (by exact st.drop (by repeat (first | exact sl0 | apply sl1 | apply sl2)))
  refine vp_take rfl rfl rfl hS (fun w st => y_mv rfl) ?_
  refine vp_take rfl rfl rfl hS (fun w st => y_mv rfl) ?_
  refine vp_take rfl rfl rfl hS (fun w st => (by exact y_faz (k := 1) rfl Tryd.underlying70 rfl rfl Tryd.sizeOf9 rfl)) ?_
  refine vp_take rfl rfl rfl hS (fun w st => (by exact y_ld st 0 rfl Tryd.isAgg9 rfl rfl)) ?_
  refine vp_take rfl rfl rfl hS (fun w st => (by exact y_faz (k := 3) rfl Tryd.underlying70 rfl rfl Tryd.sizeOf61 rfl)) ?_
  refine vp_take rfl rfl rfl hS (fun w st => (by exact y_ld st 0 rfl Tryd.isAgg61 rfl rfl)) ?_
  refine vp_do rfl (e_call [_] rfl rfl Tryd.call85 rfl (first_any s.e x hx 0 hRx hkx _ _ _ (hse.kept (hsame st.chg)) (Nat.le_trans hn0 st.chg.size) h0 (hsg.kept' st.chg (hW.notin h0)) hlx) ?_)
  rintro _ w ⟨r, rfl, hT, cw⟩
  replace st := st.call0 cw
  have hTl := hT.2.2.1
  simp only [List.length_nil, Nat.zero_add] at hTl
  refine vp_next (by exact st.drop (by repeat (first | exact sl0 | apply sl1 | apply sl2))) ?_; intro hS
  refine vp_do rfl (e_bsn (l := [s.nm, [32, 61, 32], r, [59]].map str) (E := 9) st [(0, _), (1, _), (2, _), (3, _)] rfl rfl rfl (fun w => by simp [Instr.buildSlice, run_underlying Tryd.underlying36, Tryd.sizeOf9, Tryd.zeroValue9, Instr.fill, newRow, newObj, Sem.run, go_sem]) ?_)
  intro b13 w hb13 st
  refine vp_next (by exact st.drop (by repeat (first | exact sl0 | apply sl1 | apply sl2))) ?_; intro hS
  refine vp_do rfl (e_call [_, _, _] rfl rfl Tryd.call20 rfl (line_any repeat_any bw _ _ d (by omega) [s.nm, [32, 61, 32], r, [59]] (by simp) (by simp; omega) b13 _ _ (st.wrGet (i := 2) rfl) (Nat.le_trans hn0 st.chg.size) (fun j x hx => cell_nth (st.res (i := 0) rfl) (strs_nth hx)) (fun hk => apart_nth st.nodup (i := 0) (j := 2) (by decide) rfl rfl _ (.head _) hk)) ?_)
  rintro _ w ⟨rfl, hp⟩
  obtain ⟨v9, st⟩ := st.wr (i := 2) rfl hp
  dsimp only [setNth] at st
  refine vp_next (by exact st.drop (by repeat (first | exact sl0 | apply sl1 | apply sl2))) ?_; intro hS
  refine vp_end ?_
  refine vq_ret0 (.inr rfl) Tryd.results51 ?_
  refine ⟨_, rfl, ?_⟩
  refine ⟨rfl, WrP.swap (st.wrDone (i := 2) rfl) ?_⟩
  rw [txtS_flat (by omega)]
  unfold hdS
  rw [hk, hxt]
  have h := hT.same (mar d ++ (s.nm ++ [32, 61, 32])) [59, 10]
  simpa [List.append_assoc] using h

theorem wswap_any (s : Sm) (hk : s.k = 2) (d : Nat) (hd : d ≤ 64) (hR : rightS s d = true) (hok : OkS s) (oe ob ol : Option Addr) (ce cb cl : Nat) (bw : Nat) (v : Value) (F : List UInt8) (w : World) (hse : ExRow w (· < n0) oe s.e) (hW : Wr 5 n0 47 bw v F w) (hn0 : n0 ≤ w.heap.size) (h0 : 0 < n0) (hsg : Sig w) (hlx : (txX s.e).length ≤ 1099511627776) :
    Ret Tryd.prog 52 [.pointer (some ⟨bw, 0, none⟩), .agg (smL s oe ob ol ce cb cl).toArray, .int .i64 (d : Int)] w fun r w' => r = .tuple #[] ∧ WrP 5 n0 47 bw v (F ++ txtS s d) w w' := by
  refine ret_of [_, _, _] Tryd.func52 rfl Tryd.ntmps52 rfl ?_
  have st := St.init w []
  clear st
  obtain ⟨w0, rfl⟩ : ∃ w0, w0 = w := ⟨_, rfl⟩
  have st := St.wrInit hW
  have hsame : ∀ {w1 : World}, Chg (bw :: v.ownBlock.toList) w0 w1 → Same (· < n0) w0 w1 := fun c => hW.same c
  obtain ⟨⟨r1, r1b⟩, r2, r3, r4, r5, r6, r7, r8, r9⟩ := rightS_iff.1 hR
  obtain ⟨x, hx, hlen, hRx⟩ := rightX_inv (by unfold hasE; simp only [decide_eq_true_eq]; omega) r4
  have hxt := txX_eq hx
  have hkx := hok.e.2 0 x hx
  rw [hxt] at hlx
  have hnm : s.nm.length ≤ 32 := by
    rw [show hasN s.k = true by unfold hasN; simp only [decide_eq_true_eq]; omega] at r2
    exact isName_le (by simpa [nmOk] using r2)
  have hot : s.other.length ≤ 32 := by
    rw [show decide (s.k = 2) = true by simp only [decide_eq_true_eq]; omega] at r3
    exact isName_le (by simpa [nmOk] using r3)
  refine vc_seq ?_
  refine vc_region ?_
  refine vc_e (e_bx (l := [_, _, _, _, _, _, _]) st rfl rfl rfl rfl ?_)
  intro b4 w hb4 st
  refine vc_end ?_
  refine vq_then ?_
  refine vc_keep [(0, _), (2, _), (4, _)] ⟨rfl, rfl, rfl, trivial⟩ ?_
  refine vc_draw Tryd.mixed [(0, true), (1, true), (2, true), (3, true), (4, true), (5, true), (6, true), (7, true), (8, false), (9, false), (10, false)] (fun w => St _ _ [.blk b4 (.cells (smL s oe ob ol ce cb cl).toArray 70 (0, 0))] w) (by exact st.drop (by repeat (first | exact sl0 | apply sl1 | apply sl2))) (by kernel_rfl) (by repeat (first | exact okQ_body | refine okQ_then ?_ | refine okQ_block ?_)) rfl (by kernel_rfl) ?_
  intro w cd; replace st := st.call0 cd; clear cd
  have hS : St _ _ [.blk b4 (.cells (smL s oe ob ol ce cb cl).toArray 70 (0, 0))] w := (by exact st.drop (by repeat (first | exact sl0 | apply sl1 | apply sl2)))
  refine vp_take rfl rfl rfl hS (fun w st => y_mv rfl) ?_
  refine vp_take rfl rfl rfl hS (fun w st => y_mv rfl) ?_
  refine vp_take rfl rfl rfl hS (fun w st => (by exact y_faz (k := 1) rfl Tryd.underlying70 rfl rfl Tryd.sizeOf9 rfl)) ?_
  refine vp_take rfl rfl rfl hS (fun w st => (by exact y_ld st 0 rfl Tryd.isAgg9 rfl rfl)) ?_
  refine vp_take rfl rfl rfl hS (fun w st => (by exact y_faz (k := 2) rfl Tryd.underlying70 rfl rfl Tryd.sizeOf9 rfl)) ?_
  refine vp_take rfl rfl rfl hS (fun w st => (by exact y_ld st 0 rfl Tryd.isAgg9 rfl rfl)) ?_
  refine vp_take rfl rfl rfl hS (fun w st => (by exact y_faz (k := 3) rfl Tryd.underlying70 rfl rfl Tryd.sizeOf61 rfl)) ?_
  refine vp_take rfl rfl rfl hS (fun w st => (by exact y_ld st 0 rfl Tryd.isAgg61 rfl rfl)) ?_
  refine vp_do rfl (e_call [_] rfl rfl Tryd.call85 rfl (first_any s.e x hx 0 hRx hkx _ _ _ (hse.kept (hsame st.chg)) (Nat.le_trans hn0 st.chg.size) h0 (hsg.kept' st.chg (hW.notin h0)) hlx) ?_)
  rintro _ w ⟨r, rfl, hT, cw⟩
  replace st := st.call0 cw
  have hTl := hT.2.2.1
  simp only [List.length_nil, Nat.zero_add] at hTl
  refine vp_next (by exact st.drop (by repeat (first | exact sl0 | apply sl1 | apply sl2))) ?_; intro hS
  refine vp_do rfl (e_bsn (l := [s.nm, [32, 61, 32, 115, 119, 97, 112, 40], s.other, [44, 32], r, [41, 59]].map str) (E := 9) st [(0, _), (1, _), (2, _), (3, _), (4, _), (5, _)] rfl rfl rfl (fun w => by simp [Instr.buildSlice, run_underlying Tryd.underlying36, Tryd.sizeOf9, Tryd.zeroValue9, Instr.fill, newRow, newObj, Sem.run, go_sem]) ?_)
  intro b15 w hb15 st
  refine vp_next (by exact st.drop (by repeat (first | exact sl0 | apply sl1 | apply sl2))) ?_; intro hS
  refine vp_do rfl (e_call [_, _, _] rfl rfl Tryd.call20 rfl (line_any repeat_any bw _ _ d (by omega) [s.nm, [32, 61, 32, 115, 119, 97, 112, 40], s.other, [44, 32], r, [41, 59]] (by simp) (by simp; omega) b15 _ _ (st.wrGet (i := 2) rfl) (Nat.le_trans hn0 st.chg.size) (fun j x hx => cell_nth (st.res (i := 0) rfl) (strs_nth hx)) (fun hk => apart_nth st.nodup (i := 0) (j := 2) (by decide) rfl rfl _ (.head _) hk)) ?_)
  rintro _ w ⟨rfl, hp⟩
  obtain ⟨v9, st⟩ := st.wr (i := 2) rfl hp
  dsimp only [setNth] at st
  refine vp_next (by exact st.drop (by repeat (first | exact sl0 | apply sl1 | apply sl2))) ?_; intro hS
  refine vp_end ?_
  refine vq_ret0 (.inr rfl) Tryd.results52 ?_
  refine ⟨_, rfl, ?_⟩
  refine ⟨rfl, WrP.swap (st.wrDone (i := 2) rfl) ?_⟩
  rw [txtS_flat (by omega)]
  unfold hdS
  rw [hk, hxt]
  have h := hT.same (mar d ++ (s.nm ++ [32, 61, 32, 115, 119, 97, 112, 40] ++ s.other ++ [44, 32])) [41, 59, 10]
  simpa [List.append_assoc] using h

end
end Go.Proofs.YtnmhlpnapgojjaaDoor


namespace Go.Proofs.YtnmhlpnapgojjaaDoor
open Go.RowKit Sx LexS
set_option linter.unusedVariables false
set_option linter.unusedSimpArgs false
section
variable {n0 : Nat}

theorem wlock_any (s : Sm) (hk : s.k = 5) (d : Nat) (hd : d ≤ 64) (hR : rightS s d = true) (hok : OkS s) (oe ob ol : Option Addr) (ce cb cl : Nat) (bw : Nat) (v : Value) (F : List UInt8) (w : World) (hse : ExRow w (· < n0) oe s.e) (hsb : SmRow w (· < n0) ob s.body) (hsl : SmRow w (· < n0) ol s.els) (hW : Wr 5 n0 47 bw v F w) (hn0 : n0 ≤ w.heap.size) (h0 : 0 < n0) (hsg : Sig w) (hlx : (txX s.e).length ≤ 1099511627776) (hrec : ∀ (l : List Sm), (l = s.body ∨ l = s.els) → ∀ (bw : Nat) (v : Value) (F : List UInt8) (oa : Option Addr) (cap : Nat) (w : World), SmRow w (· < n0) oa l → Wr 5 n0 47 bw v F w → n0 ≤ w.heap.size → Sig w → d < 64 →
      Ret Tryd.prog 21 [.pointer (some ⟨bw, 0, none⟩), .slice oa l.length cap, .int .i64 ((d + 1 : Nat) : Int)] w fun r w' => r = .tuple #[] ∧ WrP 5 n0 47 bw v (F ++ txtSs l (d + 1)) w w') :
    Ret Tryd.prog 54 [.pointer (some ⟨bw, 0, none⟩), .agg (smL s oe ob ol ce cb cl).toArray, .int .i64 (d : Int)] w fun r w' => r = .tuple #[] ∧ WrP 5 n0 47 bw v (F ++ txtS s d) w w' := by
  refine ret_of [_, _, _] Tryd.func54 rfl Tryd.ntmps54 rfl ?_
  have st := St.init w []
  clear st
  obtain ⟨w0, rfl⟩ : ∃ w0, w0 = w := ⟨_, rfl⟩
  have st := St.wrInit hW
  have hsame : ∀ {w1 : World}, Chg (bw :: v.ownBlock.toList) w0 w1 → Same (· < n0) w0 w1 := fun c => hW.same c
  obtain ⟨⟨r1, r1b⟩, r2, r3, r4, r5, r6, r7, r8, r9⟩ := rightS_iff.1 hR
  have hnm : s.nm.length ≤ 32 := by
    rw [show hasN s.k = true by unfold hasN; simp only [decide_eq_true_eq]; omega] at r2
    exact isName_le (by simpa [nmOk] using r2)
  have hd64 : d < 64 := by
    rcases r7 with h | h
    · have hB : hasB s.k = true := by unfold hasB; simp only [decide_eq_true_eq]; omega
      rw [hB] at h; cases h.1
    · exact h
  refine vc_seq ?_
  refine vc_region ?_
  refine vc_e (e_bx (l := [_, _, _, _, _, _, _]) st rfl rfl rfl rfl ?_)
  intro b4 w hb4 st
  refine vc_end ?_
  refine vq_then ?_
  refine vc_keep [(0, _), (2, _), (4, _)] ⟨rfl, rfl, rfl, trivial⟩ ?_
  refine vc_seq ?_
  refine vc_region ?_
  refine vc_y rfl rfl (y_mv rfl) ?_
  refine vc_y rfl rfl (y_mv rfl) ?_
  refine vc_y rfl rfl ((by exact y_faz (k := 1) rfl Tryd.underlying70 rfl rfl Tryd.sizeOf9 rfl)) ?_
  refine vc_y rfl rfl ((by exact y_ld st 0 rfl Tryd.isAgg9 rfl rfl)) ?_
  refine vc_e (e_bsn (l := [[108, 111, 99, 107, 32], s.nm, [32, 123]].map str) (E := 9) st [(0, _), (1, _), (2, _)] rfl rfl rfl (fun w => by simp [Instr.buildSlice, run_underlying Tryd.underlying36, Tryd.sizeOf9, Tryd.zeroValue9, Instr.fill, newRow, newObj, Sem.run, go_sem]) ?_)
  intro b10 w hb10 st
  refine vc_e (e_call [_, _, _] rfl rfl Tryd.call20 rfl (line_any repeat_any bw _ _ d (by omega) [[108, 111, 99, 107, 32], s.nm, [32, 123]] (by simp) (by simp; omega) b10 _ _ (st.wrGet (i := 2) rfl) (Nat.le_trans hn0 st.chg.size) (fun j x hx => cell_nth (st.res (i := 0) rfl) (strs_nth hx)) (fun hk => apart_nth st.nodup (i := 0) (j := 2) (by decide) rfl rfl _ (.head _) hk)) ?_)
  rintro _ w ⟨rfl, hp⟩
  obtain ⟨v9, st⟩ := st.wr (i := 2) rfl hp
  dsimp only [setNth] at st
  refine vc_end ?_
  refine vq_then ?_
  refine vc_keep [(0, _), (2, _), (4, _)] ⟨rfl, rfl, rfl, trivial⟩ ?_
  refine vc_seq ?_
  refine vc_region ?_
  refine vc_y rfl rfl (y_mv rfl) ?_
  refine vc_y rfl rfl ((by exact y_faz (k := 4) rfl Tryd.underlying70 rfl rfl Tryd.sizeOf40 rfl)) ?_
  refine vc_y rfl rfl ((by exact y_ld st 1 rfl Tryd.isAgg40 rfl rfl)) ?_
  refine vc_y rfl rfl (y_mv rfl) ?_
  refine vc_y rfl rfl (y_add rfl rfl (by omega : _ = ((d + 1 : Nat) : Int)) (by omega) (by omega)) ?_
  refine vc_e (e_call [_, _, _] rfl rfl Tryd.call21 rfl (hrec _ (.inl rfl) bw _ _ _ _ _ (hsb.kept (hsame st.chg)) (st.wrGet (i := 2) rfl) (Nat.le_trans hn0 st.chg.size) (hsg.kept' st.chg (hW.notin h0)) hd64) ?_)
  rintro _ w ⟨rfl, hp⟩
  obtain ⟨v9, st⟩ := st.wr (i := 2) rfl hp
  dsimp only [setNth] at st
  refine vc_end ?_
  refine vq_then ?_
  refine vc_keep [(0, _), (2, _)] ⟨rfl, rfl, trivial⟩ ?_
  refine vc_region ?_
  refine vc_y rfl rfl (y_mv rfl) ?_
  refine vc_y rfl rfl (y_mv rfl) ?_
  refine vc_e (e_bsn (l := [[125]].map str) (E := 9) st [(0, _)] rfl rfl rfl (fun w => by simp [Instr.buildSlice, run_underlying Tryd.underlying36, Tryd.sizeOf9, Tryd.zeroValue9, Instr.fill, newRow, newObj, Sem.run, go_sem]) ?_)
  intro b20 w hb20 st
  refine vc_e (e_call [_, _, _] rfl rfl Tryd.call20 rfl (line_any repeat_any bw _ _ d (by omega) [[125]] (by simp) (by simp) b20 _ _ (st.wrGet (i := 3) rfl) (Nat.le_trans hn0 st.chg.size) (fun j x hx => cell_nth (st.res (i := 0) rfl) (strs_nth hx)) (fun hk => apart_nth st.nodup (i := 0) (j := 3) (by decide) rfl rfl _ (.head _) hk)) ?_)
  rintro _ w ⟨rfl, hp⟩
  obtain ⟨v9, st⟩ := st.wr (i := 3) rfl hp
  dsimp only [setNth] at st
  refine vc_end ?_
  refine vq_ret0 (.inr rfl) Tryd.results54 ?_
  refine ⟨_, rfl, ?_⟩
  refine ⟨rfl, (st.wrDone (i := 3) rfl).eq ?_⟩
  rw [txtS_lock hk]
  unfold hdS
  rw [hk]
  simp [List.append_assoc]

theorem wcond_any (s : Sm) (hk : s.k = 3 ∨ s.k = 4) (d : Nat) (hd : d ≤ 64) (hR : rightS s d = true) (hok : OkS s) (oe ob ol : Option Addr) (ce cb cl : Nat) (bw : Nat) (v : Value) (F : List UInt8) (w : World) (hse : ExRow w (· < n0) oe s.e) (hsb : SmRow w (· < n0) ob s.body) (hsl : SmRow w (· < n0) ol s.els) (hW : Wr 5 n0 47 bw v F w) (hn0 : n0 ≤ w.heap.size) (h0 : 0 < n0) (hsg : Sig w) (hlx : (txX s.e).length ≤ 1099511627776) (hrec : ∀ (l : List Sm), (l = s.body ∨ l = s.els) → ∀ (bw : Nat) (v : Value) (F : List UInt8) (oa : Option Addr) (cap : Nat) (w : World), SmRow w (· < n0) oa l → Wr 5 n0 47 bw v F w → n0 ≤ w.heap.size → Sig w → d < 64 →
      Ret Tryd.prog 21 [.pointer (some ⟨bw, 0, none⟩), .slice oa l.length cap, .int .i64 ((d + 1 : Nat) : Int)] w fun r w' => r = .tuple #[] ∧ WrP 5 n0 47 bw v (F ++ txtSs l (d + 1)) w w') :
    Ret Tryd.prog 53 [.pointer (some ⟨bw, 0, none⟩), .agg (smL s oe ob ol ce cb cl).toArray, .int .i64 (d : Int)] w fun r w' => r = .tuple #[] ∧ WrP 5 n0 47 bw v (F ++ txtS s d) w w' := by
  refine ret_of [_, _, _] Tryd.func53 rfl Tryd.ntmps53 rfl ?_
  have st := St.init w []
  clear st
  obtain ⟨w0, rfl⟩ : ∃ w0, w0 = w := ⟨_, rfl⟩
  have st := St.wrInit hW
  have hsame : ∀ {w1 : World}, Chg (bw :: v.ownBlock.toList) w0 w1 → Same (· < n0) w0 w1 := fun c => hW.same c
  obtain ⟨⟨r1, r1b⟩, r2, r3, r4, r5, r6, r7, r8, r9⟩ := rightS_iff.1 hR
  obtain ⟨x, hx, hlen, hRx⟩ := rightX_inv (by unfold hasE; simp only [decide_eq_true_eq]; omega) r4
  have hxt := txX_eq hx
  have hkx := hok.e.2 0 x hx
  rw [hxt] at hlx
  have hd64 : d < 64 := by
    rcases r7 with h | h
    · have hB : hasB s.k = true := by unfold hasB; simp only [decide_eq_true_eq]; omega
      rw [hB] at h; cases h.1
    · exact h
  refine vc_seq ?_
  refine vc_region ?_
  refine vc_e (e_bx (l := [_, _, _, _, _, _, _]) st rfl rfl rfl rfl ?_)
  intro b4 w hb4 st
  refine vc_end ?_
  refine vq_then ?_
  refine vc_keep [(0, _), (2, _), (4, _)] ⟨rfl, rfl, rfl, trivial⟩ ?_
  refine vc_seq ?_
  refine vc_region ?_
  refine vc_y rfl rfl (y_as rfl) ?_
  refine vc_end ?_
  refine vq_then ?_
  refine vc_keep [(0, _), (2, _), (4, _), (6, _)] ⟨rfl, rfl, rfl, rfl, trivial⟩ ?_
  refine vc_cut (w0 := w0) (M := (bw :: v.ownBlock.toList)) (fun (_ : Unit) => [(0, .pointer (some ⟨bw, 0, none⟩)), (2, .int .i64 (d : Int)), (4, .pointer (some ⟨b4, 0, none⟩)), (6, str (if s.k = 4 then [119, 104, 105, 108, 101, 32, 40] else [105, 102, 32, 40]))]) (fun _ => [.blk b4 (.cells (smL s oe ob ol ce cb cl).toArray 70 (0, 0)), wrR (bw :: v.ownBlock.toList) w0.heap.size 5 n0 47 bw v F]) (fun _ _ => True) ?_ ?_
  ·
    refine vc_seq ?_
    refine vc_region ?_
    refine vc_y rfl rfl (y_fa0 rfl Tryd.underlying70 rfl rfl Tryd.sizeOf68 rfl) ?_
    refine vc_y rfl rfl ((by exact y_ld st 0 rfl Tryd.isAgg68 rfl rfl)) ?_
    refine vc_y rfl rfl (y_eqi rfl rfl) ?_
    refine vc_end ?_
    refine vq_then ?_
    refine vc_keep [(0, _), (2, _), (4, _), (6, _), (9, _)] ⟨rfl, rfl, rfl, rfl, rfl, trivial⟩ ?_
    refine vc_ifs rfl ?_ ?_
    · intro hc9
      try simp only [dn] at hc9
      refine vc_region ?_
      refine vc_y rfl rfl (y_as rfl) ?_
      refine vc_end ?_
      refine vq_meet () ⟨rfl, rfl, rfl, by simp only [Sx.put, find, Nat.beq]; first | rw [if_pos (by assumption)] | rw [if_neg (by assumption)], trivial⟩ st ?_
      · trivial
    · intro hc9
      try simp only [dn] at hc9
      refine vc_code_skip ?_
      refine vq_meet () ⟨rfl, rfl, rfl, by simp only [Sx.put, find, Nat.beq]; first | rw [if_pos (by assumption)] | rw [if_neg (by assumption)], trivial⟩ st ?_
      · trivial
  ·
    clear st
    rintro ⟨⟩ w - st
    refine vc_seq ?_
    refine vc_region ?_
    refine vc_y rfl rfl (y_mv rfl) ?_
    refine vc_y rfl rfl (y_mv rfl) ?_
    refine vc_y rfl rfl (y_mv rfl) ?_
    refine vc_y rfl rfl ((by exact y_faz (k := 3) rfl Tryd.underlying70 rfl rfl Tryd.sizeOf61 rfl)) ?_
    refine vc_y rfl rfl ((by exact y_ld st 0 rfl Tryd.isAgg61 rfl rfl)) ?_
    refine vc_e (e_call [_] rfl rfl Tryd.call85 rfl (first_any s.e x hx 0 hRx hkx _ _ _ (hse.kept (hsame st.chg)) (Nat.le_trans hn0 st.chg.size) h0 (hsg.kept' st.chg (hW.notin h0)) hlx) ?_)
    rintro _ w ⟨r, rfl, hT, cw⟩
    replace st := st.call0 cw
    have hTl := hT.2.2.1
    simp only [List.length_nil, Nat.zero_add] at hTl
    refine vc_e (e_bsn (l := [(if s.k = 4 then [119, 104, 105, 108, 101, 32, 40] else [105, 102, 32, 40]), r, [41, 32, 123]].map str) (E := 9) st [(0, _), (1, _), (2, _)] rfl rfl rfl (fun w => by simp [Instr.buildSlice, run_underlying Tryd.underlying36, Tryd.sizeOf9, Tryd.zeroValue9, Instr.fill, newRow, newObj, Sem.run, go_sem]) ?_)
    intro b16 w hb16 st
    refine vc_e (e_call [_, _, _] rfl rfl Tryd.call20 rfl (line_any repeat_any bw _ _ d (by omega) [(if s.k = 4 then [119, 104, 105, 108, 101, 32, 40] else [105, 102, 32, 40]), r, [41, 32, 123]] (by simp) (by simp; split <;> simp <;> omega) b16 _ _ (st.wrGet (i := 2) rfl) (Nat.le_trans hn0 st.chg.size) (fun j x hx => cell_nth (st.res (i := 0) rfl) (strs_nth hx)) (fun hk => apart_nth st.nodup (i := 0) (j := 2) (by decide) rfl rfl _ (.head _) hk)) ?_)
    rintro _ w ⟨rfl, hp⟩
    obtain ⟨v9, st⟩ := st.wr (i := 2) rfl hp
    dsimp only [setNth] at st
    refine vc_end ?_
    refine vq_then ?_
    refine vc_keep [(0, _), (2, _), (4, _)] ⟨rfl, rfl, rfl, trivial⟩ ?_
    refine vc_seq ?_
    refine vc_region ?_
    refine vc_y rfl rfl (y_mv rfl) ?_
    refine vc_y rfl rfl ((by exact y_faz (k := 4) rfl Tryd.underlying70 rfl rfl Tryd.sizeOf40 rfl)) ?_
    refine vc_y rfl rfl ((by exact y_ld st 1 rfl Tryd.isAgg40 rfl rfl)) ?_
    refine vc_y rfl rfl (y_mv rfl) ?_
    refine vc_y rfl rfl (y_add rfl rfl (by omega : _ = ((d + 1 : Nat) : Int)) (by omega) (by omega)) ?_
    refine vc_e (e_call [_, _, _] rfl rfl Tryd.call21 rfl (hrec _ (.inl rfl) bw _ _ _ _ _ (hsb.kept (hsame st.chg)) (st.wrGet (i := 2) rfl) (Nat.le_trans hn0 st.chg.size) (hsg.kept' st.chg (hW.notin h0)) hd64) ?_)
    rintro _ w ⟨rfl, hp⟩
    obtain ⟨v9, st⟩ := st.wr (i := 2) rfl hp
    dsimp only [setNth] at st
    refine vc_end ?_
    refine vq_then ?_
    refine vc_keep [(0, _), (2, _), (4, _)] ⟨rfl, rfl, rfl, trivial⟩ ?_
    refine vc_seq ?_
    refine vc_seq ?_
    refine vc_region ?_
    refine vc_y rfl rfl ((by exact y_faz (k := 5) rfl Tryd.underlying70 rfl rfl Tryd.sizeOf40 rfl)) ?_
    refine vc_y rfl rfl ((by exact y_ld st 1 rfl Tryd.isAgg40 rfl rfl)) ?_
    refine vc_y rfl rfl (y_lensl rfl Tryd.underlying40) ?_
    refine vc_y rfl rfl (y_gtr rfl rfl) ?_
    refine vc_end ?_
    refine vq_then ?_
    refine vc_keep [(0, _), (2, _), (4, _), (27, _)] ⟨rfl, rfl, rfl, rfl, trivial⟩ ?_
    refine vc_ifs rfl ?_ ?_
    · intro hc27
      try simp only [dn] at hc27
      refine vc_seq ?_
      refine vc_region ?_
      refine vc_y rfl rfl (y_mv rfl) ?_
      refine vc_y rfl rfl (y_mv rfl) ?_
      refine vc_e (e_bsn (l := [[125, 32, 101, 108, 115, 101, 32, 123]].map str) (E := 9) st [(0, _)] rfl rfl rfl (fun w => by simp [Instr.buildSlice, run_underlying Tryd.underlying36, Tryd.sizeOf9, Tryd.zeroValue9, Instr.fill, newRow, newObj, Sem.run, go_sem]) ?_)
      intro b30 w hb30 st
      refine vc_e (e_call [_, _, _] rfl rfl Tryd.call20 rfl (line_any repeat_any bw _ _ d (by omega) [[125, 32, 101, 108, 115, 101, 32, 123]] (by simp) (by simp) b30 _ _ (st.wrGet (i := 3) rfl) (Nat.le_trans hn0 st.chg.size) (fun j x hx => cell_nth (st.res (i := 0) rfl) (strs_nth hx)) (fun hk => apart_nth st.nodup (i := 0) (j := 3) (by decide) rfl rfl _ (.head _) hk)) ?_)
      rintro _ w ⟨rfl, hp⟩
      obtain ⟨v9, st⟩ := st.wr (i := 3) rfl hp
      dsimp only [setNth] at st
      refine vc_end ?_
      refine vq_then ?_
      refine vc_keep [(0, _), (2, _), (4, _)] ⟨rfl, rfl, rfl, trivial⟩ ?_
      refine vc_region ?_
      refine vc_y rfl rfl (y_mv rfl) ?_
      refine vc_y rfl rfl ((by exact y_faz (k := 5) rfl Tryd.underlying70 rfl rfl Tryd.sizeOf40 rfl)) ?_
      refine vc_y rfl rfl ((by exact y_ld st 2 rfl Tryd.isAgg40 rfl rfl)) ?_
      refine vc_y rfl rfl (y_mv rfl) ?_
      refine vc_y rfl rfl (y_add rfl rfl (by omega : _ = ((d + 1 : Nat) : Int)) (by omega) (by omega)) ?_
      refine vc_e (e_call [_, _, _] rfl rfl Tryd.call21 rfl (hrec _ (.inr rfl) bw _ _ _ _ _ (hsl.kept (hsame st.chg)) (st.wrGet (i := 3) rfl) (Nat.le_trans hn0 st.chg.size) (hsg.kept' st.chg (hW.notin h0)) hd64) ?_)
      rintro _ w ⟨rfl, hp⟩
      obtain ⟨v9, st⟩ := st.wr (i := 3) rfl hp
      dsimp only [setNth] at st
      refine vc_end ?_
      refine vq_then ?_
      refine vc_keep [(0, _), (2, _)] ⟨rfl, rfl, trivial⟩ ?_
      refine vc_region ?_
      refine vc_y rfl rfl (y_mv rfl) ?_
      refine vc_y rfl rfl (y_mv rfl) ?_
      refine vc_e (e_bsn (l := [[125]].map str) (E := 9) st [(0, _)] rfl rfl rfl (fun w => by simp [Instr.buildSlice, run_underlying Tryd.underlying36, Tryd.sizeOf9, Tryd.zeroValue9, Instr.fill, newRow, newObj, Sem.run, go_sem]) ?_)
      intro b40 w hb40 st
      refine vc_e (e_call [_, _, _] rfl rfl Tryd.call20 rfl (line_any repeat_any bw _ _ d (by omega) [[125]] (by simp) (by simp) b40 _ _ (st.wrGet (i := 4) rfl) (Nat.le_trans hn0 st.chg.size) (fun j x hx => cell_nth (st.res (i := 0) rfl) (strs_nth hx)) (fun hk => apart_nth st.nodup (i := 0) (j := 4) (by decide) rfl rfl _ (.head _) hk)) ?_)
      rintro _ w ⟨rfl, hp⟩
      obtain ⟨v9, st⟩ := st.wr (i := 4) rfl hp
      dsimp only [setNth] at st
      refine vc_end ?_
      refine vq_ret0 (.inr rfl) Tryd.results53 ?_
      refine ⟨_, rfl, ?_⟩
      refine ⟨rfl, WrP.swap (G' := mar d ++ (if s.k = 4 then [119, 104, 105, 108, 101, 32, 40] else [105, 102, 32, 40]) ++ r ++ ([41, 32, 123, 10] ++ txtSs s.body (d + 1) ++ (mar d ++ [125, 32, 101, 108, 115, 101, 32, 123, 10] ++ txtSs s.els (d + 1)) ++ mar d ++ [125, 10])) ((st.wrDone (i := 4) rfl).eq (by simp [List.append_assoc])) ?_⟩
      rw [txtS_cond hk, if_pos (c := 0 < s.els.length) (by omega)]
      unfold hdS
      rw [if_neg (c := s.k = 1) (by omega), if_neg (c := s.k = 2) (by omega), if_neg (c := s.k = 6) (by omega), if_neg (c := s.k = 7) (by omega), if_neg (c := s.k = 5) (by omega), hxt]
      have h := hT.same (mar d ++ (if s.k = 4 then [119, 104, 105, 108, 101, 32, 40] else [105, 102, 32, 40])) ([41, 32, 123, 10] ++ txtSs s.body (d + 1) ++ (mar d ++ [125, 32, 101, 108, 115, 101, 32, 123, 10] ++ txtSs s.els (d + 1)) ++ mar d ++ [125, 10])
      simpa only [List.append_assoc, List.nil_append] using h
    · intro hc27
      try simp only [dn] at hc27
      refine vc_code_skip ?_
      refine vq_then ?_
      refine vc_keep [(0, _), (2, _)] ⟨rfl, rfl, trivial⟩ ?_
      refine vc_region ?_
      refine vc_y rfl rfl (y_mv rfl) ?_
      refine vc_y rfl rfl (y_mv rfl) ?_
      refine vc_e (e_bsn (l := [[125]].map str) (E := 9) st [(0, _)] rfl rfl rfl (fun w => by simp [Instr.buildSlice, run_underlying Tryd.underlying36, Tryd.sizeOf9, Tryd.zeroValue9, Instr.fill, newRow, newObj, Sem.run, go_sem]) ?_)
      intro b40 w hb40 st
      refine vc_e (e_call [_, _, _] rfl rfl Tryd.call20 rfl (line_any repeat_any bw _ _ d (by omega) [[125]] (by simp) (by simp) b40 _ _ (st.wrGet (i := 3) rfl) (Nat.le_trans hn0 st.chg.size) (fun j x hx => cell_nth (st.res (i := 0) rfl) (strs_nth hx)) (fun hk => apart_nth st.nodup (i := 0) (j := 3) (by decide) rfl rfl _ (.head _) hk)) ?_)
      rintro _ w ⟨rfl, hp⟩
      obtain ⟨v9, st⟩ := st.wr (i := 3) rfl hp
      dsimp only [setNth] at st
      refine vc_end ?_
      refine vq_ret0 (.inr rfl) Tryd.results53 ?_
      refine ⟨_, rfl, ?_⟩
      refine ⟨rfl, WrP.swap (G' := mar d ++ (if s.k = 4 then [119, 104, 105, 108, 101, 32, 40] else [105, 102, 32, 40]) ++ r ++ ([41, 32, 123, 10] ++ txtSs s.body (d + 1) ++ mar d ++ [125, 10])) ((st.wrDone (i := 3) rfl).eq (by simp [List.append_assoc])) ?_⟩
      rw [txtS_cond hk, if_neg (c := 0 < s.els.length) (by omega)]
      unfold hdS
      rw [if_neg (c := s.k = 1) (by omega), if_neg (c := s.k = 2) (by omega), if_neg (c := s.k = 6) (by omega), if_neg (c := s.k = 7) (by omega), if_neg (c := s.k = 5) (by omega), hxt]
      have h := hT.same (mar d ++ (if s.k = 4 then [119, 104, 105, 108, 101, 32, 40] else [105, 102, 32, 40])) ([41, 32, 123, 10] ++ txtSs s.body (d + 1) ++ mar d ++ [125, 10])
      simpa only [List.append_assoc, List.nil_append] using h

end
end Go.Proofs.YtnmhlpnapgojjaaDoor


namespace Go.Proofs.YtnmhlpnapgojjaaDoor
open Go.RowKit Sx LexS
set_option linter.unusedVariables false
set_option linter.unusedSimpArgs false
theorem txX_le {s : Sm} {d : Nat} (h : rightS s d = true) : (txX s.e).length ≤ (txtS s d).length := by
  obtain ⟨⟨r1, r1b⟩, r2, r3, r4, r5, r6, r7, r8, r9⟩ := rightS_iff.1 h
  rcases (by omega : s.k = 1 ∨ s.k = 2 ∨ s.k = 3 ∨ s.k = 4 ∨ s.k = 5 ∨ s.k = 6 ∨ s.k = 7) with h | h | h | h | h | h | h
  · rw [txtS_flat (by omega)]; unfold hdS; rw [h]; simp; omega
  · rw [txtS_flat (by omega)]; unfold hdS; rw [h]; simp; omega
  · rw [txtS_cond (by omega)]; unfold hdS; rw [h]; simp; omega
  · rw [txtS_cond (by omega)]; unfold hdS; rw [h]; simp; omega
  · have h0 : s.e.length = 0 := by rw [h] at r4; simpa [rightX, hasE] using r4
    rw [List.eq_nil_of_length_eq_zero h0]; simp [txX]
  · rw [txtS_flat (by omega)]; unfold hdS; rw [h]; simp; omega
  · have h0 : s.e.length = 0 := by rw [h] at r4; simpa [rightX, hasE] using r4
    rw [List.eq_nil_of_length_eq_zero h0]; simp [txX]
theorem within_le {s : Sm} {d : Nat} {l : List Sm} (h : rightS s d = true) (hl : l = s.body ∨ l = s.els) : (txtSs l (d + 1)).length ≤ (txtS s d).length := by
  obtain ⟨⟨r1, r1b⟩, r2, r3, r4, r5, r6, r7, r8, r9⟩ := rightS_iff.1 h
  by_cases h0 : l.length = 0
  · rw [List.eq_nil_of_length_eq_zero h0]; simp [txtSs]
  rcases hl with rfl | rfl
  · have hB : hasB s.k = true := r5.resolve_right h0
    unfold hasB at hB
    simp only [decide_eq_true_eq] at hB
    rcases (by omega : s.k = 5 ∨ (s.k = 3 ∨ s.k = 4)) with h | h
    · rw [txtS_lock h]; simp; omega
    · rw [txtS_cond h]; simp; omega
  · have hk : s.k = 3 := r6.resolve_right h0
    rw [txtS_cond (.inl hk), if_pos (by omega)]; simp; omega
theorem txtS_le {ss : List Sm} {d j : Nat} {s : Sm} (h : ss[j]? = some s) : (txtS s d).length ≤ (txtSs ss d).length := by
  rw [txtSs_split ss d (j + 1), txtSs_succ h]; simp; omega
def fnV (f bw : Nat) : Value := .func (.func f) #[.pointer (some ⟨bw, 0, none⟩)] #[]
def funL (bw : Nat) : List Value := [.nilFunc, fnV 51 bw, fnV 52 bw, fnV 53 bw, fnV 53 bw, fnV 54 bw, fnV 55 bw, fnV 56 bw]
def fnOf (m : Nat) : Nat := [56, 51, 52, 53, 53, 54, 55, 56].getD m 56
theorem fnOf_at (m bw : Nat) (h1 : 1 ≤ m) (h7 : m ≤ 7) : nth (funL bw) (m * 1) = some (fnV (fnOf m) bw) := by
  rcases (by omega : m = 1 ∨ m = 2 ∨ m = 3 ∨ m = 4 ∨ m = 5 ∨ m = 6 ∨ m = 7) with rfl | rfl | rfl | rfl | rfl | rfl | rfl <;> rfl
theorem fun_at {w : World} {b E bw m : Nat} (h : w.heap[b]? = some (.cells (funL bw).toArray E (0, 0))) (h1 : 1 ≤ m) (h7 : m ≤ 7) : w.cell? ⟨b, 0 + m * 1, none⟩ = some (fnV (fnOf m) bw) := by
  rw [Nat.zero_add]
  exact cell_nth h (fnOf_at m bw h1 h7)
theorem fnOf_call (m : Nat) (h1 : 1 ≤ m) (h7 : m ≤ 7) : ∀ (xs : Array Value) w, (callFunc (fnOf m) xs).run Tryd.prog w = .ok (.enter (fnOf m) xs) w := by
  rcases (by omega : m = 1 ∨ m = 2 ∨ m = 3 ∨ m = 4 ∨ m = 5 ∨ m = 6 ∨ m = 7) with rfl | rfl | rfl | rfl | rfl | rfl | rfl
  · exact Tryd.call51
  · exact Tryd.call52
  · exact Tryd.call53
  · exact Tryd.call53
  · exact Tryd.call54
  · exact Tryd.call55
  · exact Tryd.call56
section
variable {n0 : Nat}

theorem wstmt_any (s : Sm) (m : Nat) (hm : s.k = (m : Int)) (d : Nat) (hd : d ≤ 64) (hR : rightS s d = true) (hok : OkS s) (oe ob ol : Option Addr) (ce cb cl : Nat) (bw : Nat) (v : Value) (F : List UInt8) (w : World) (hse : ExRow w (· < n0) oe s.e) (hsb : SmRow w (· < n0) ob s.body) (hsl : SmRow w (· < n0) ol s.els) (hW : Wr 5 n0 47 bw v F w) (hn0 : n0 ≤ w.heap.size) (h0 : 0 < n0) (hsg : Sig w) (hlx : (txX s.e).length ≤ 1099511627776) (hrec : ∀ (l : List Sm), (l = s.body ∨ l = s.els) → ∀ (bw : Nat) (v : Value) (F : List UInt8) (oa : Option Addr) (cap : Nat) (w : World), SmRow w (· < n0) oa l → Wr 5 n0 47 bw v F w → n0 ≤ w.heap.size → Sig w → d < 64 →
      Ret Tryd.prog 21 [.pointer (some ⟨bw, 0, none⟩), .slice oa l.length cap, .int .i64 ((d + 1 : Nat) : Int)] w fun r w' => r = .tuple #[] ∧ WrP 5 n0 47 bw v (F ++ txtSs l (d + 1)) w w') :
    Ret Tryd.prog (fnOf m) ([.pointer (some ⟨bw, 0, none⟩)] ++ [.agg (smL s oe ob ol ce cb cl).toArray, .int .i64 (d : Int)] ++ []) w fun r w' => r = .tuple #[] ∧ WrP 5 n0 47 bw v (F ++ txtS s d) w w' := by
  obtain ⟨⟨r1, r1b⟩, -⟩ := rightS_iff.1 hR
  rcases (by omega : m = 1 ∨ m = 2 ∨ m = 3 ∨ m = 4 ∨ m = 5 ∨ m = 6 ∨ m = 7) with rfl | rfl | rfl | rfl | rfl | rfl | rfl
  · exact wassign_any s hm d hd hR hok oe ob ol ce cb cl bw v F w hse hW hn0 h0 hsg hlx
  · exact wswap_any s hm d hd hR hok oe ob ol ce cb cl bw v F w hse hW hn0 h0 hsg hlx
  · exact wcond_any s (.inl hm) d hd hR hok oe ob ol ce cb cl bw v F w hse hsb hsl hW hn0 h0 hsg hlx hrec
  · exact wcond_any s (.inr hm) d hd hR hok oe ob ol ce cb cl bw v F w hse hsb hsl hW hn0 h0 hsg hlx hrec
  · exact wlock_any s hm d hd hR hok oe ob ol ce cb cl bw v F w hse hsb hsl hW hn0 h0 hsg hlx hrec
  · exact wprintS_any s hm d hd hR hok oe ob ol ce cb cl bw v F w hse hW hn0 h0 hsg hlx
  · exact wskip_any s hm d hd oe ob ol ce cb cl bw v F w hW hn0

set_option maxHeartbeats 1000000 in
theorem wblock_any : ∀ (n : Nat) (ss : List Sm), szo ss = n → ∀ (d : Nat), d ≤ 64 → rightSs ss d = true → OkSs ss → (txtSs ss d).length ≤ 1099511627776 → ∀ (bw : Nat) (v : Value) (F : List UInt8) (oa : Option Addr) (cap : Nat) (w : World), SmRow w (· < n0) oa ss → Wr 5 n0 47 bw v F w → n0 ≤ w.heap.size → 0 < n0 → Sig w →
    Ret Tryd.prog 21 [.pointer (some ⟨bw, 0, none⟩), .slice oa ss.length cap, .int .i64 (d : Int)] w fun r w' => r = .tuple #[] ∧ WrP 5 n0 47 bw v (F ++ txtSs ss d) w w' := by
  intro n
  refine Nat.strongRecOn n fun n ih => ?_
  intro ss hn d hd hR hok hlen bw v F oa cap w hr hW hn0 h0 hsg
  subst hn
  have hssl := hok.1
  refine ret_of [_, _, _] Tryd.func21 rfl Tryd.ntmps21 rfl ?_
  have st := St.init w []
  clear st
  obtain ⟨w0, rfl⟩ : ∃ w0, w0 = w := ⟨_, rfl⟩
  have st := St.wrInit hW
  have hsame : ∀ {w1 : World}, Chg (bw :: v.ownBlock.toList) w0 w1 → Same (· < n0) w0 w1 := fun c => hW.same c
  refine vc_seq ?_
  refine vc_region ?_
  refine vc_y rfl rfl (y_mv rfl) ?_
  refine vc_y rfl rfl (y_mf [_] [] rfl rfl) ?_
  refine vc_y rfl rfl (y_mv rfl) ?_
  refine vc_y rfl rfl (y_mf [_] [] rfl rfl) ?_
  refine vc_y rfl rfl (y_mv rfl) ?_
  refine vc_y rfl rfl (y_mf [_] [] rfl rfl) ?_
  refine vc_y rfl rfl (y_mv rfl) ?_
  refine vc_y rfl rfl (y_mf [_] [] rfl rfl) ?_
  refine vc_y rfl rfl (y_mv rfl) ?_
  refine vc_y rfl rfl (y_mf [_] [] rfl rfl) ?_
  refine vc_y rfl rfl (y_mv rfl) ?_
  refine vc_y rfl rfl (y_mf [_] [] rfl rfl) ?_
  refine vc_y rfl rfl (y_mv rfl) ?_
  refine vc_y rfl rfl (y_mf [_] [] rfl rfl) ?_
  refine vc_y rfl rfl (y_bld (.agg #[_, _, _, _, _, _, _, _]) [(1, _), (2, _), (3, _), (4, _), (5, _), (6, _), (7, _)] rfl (fun w => by simp [Instr.build, go_sem] <;> repeat' constructor)) ?_
  refine vc_e (e_al (l := [_, _, _, _, _, _, _, _]) st rfl rfl Tryd.zeroValue88 rfl ?_)
  intro b6 w hb6 st
  refine vc_e (e_sts (vs := [_, _, _, _, _, _, _, _]) st 0 rfl rfl rfl rfl rfl Tryd.sizeOf88 rfl rfl (by first | (right; assumption) | (left; simp)) ?_)
  intro w st; dsimp only [setNth, wr] at st
  refine vc_end ?_
  refine vq_then ?_
  refine vc_keep [(0, _), (1, _), (2, _), (6, _)] ⟨rfl, rfl, rfl, rfl, trivial⟩ ?_
  refine vc_seq ?_
  refine vc_region ?_
  refine vc_y rfl rfl (y_mv rfl) ?_
  refine vc_y rfl rfl (y_lensl rfl Tryd.underlying40) ?_
  refine vc_y rfl rfl (y_mv rfl) ?_
  refine vc_end ?_
  refine vq_then ?_
  refine vc_keep [(0, _), (2, _), (6, _), (24, _), (25, _), (26, _)] ⟨rfl, rfl, rfl, rfl, rfl, rfl, trivial⟩ ?_
  refine vc_block ?_
  refine vc_loop (w0 := w0) (M := (bw :: v.ownBlock.toList)) (fun (x : Nat × Value) => [(0, .pointer (some ⟨bw, 0, none⟩)), (2, .int .i64 (d : Int)), (6, .pointer (some ⟨b6, 0, none⟩)), (24, .slice oa ss.length cap), (25, .int .i64 (ss.length : Int)), (26, .int .i64 (x.1 : Int))]) (fun x => [.blk b6 (.cells (funL bw).toArray 88 (0, 0)), wrR (bw :: v.ownBlock.toList) w0.heap.size 5 n0 47 bw x.2 (F ++ txtSs (ss.take x.1) d)]) (fun x _ => x.1 ≤ ss.length) (fun x => ss.length - x.1) (0, v) ⟨rfl, rfl, rfl, rfl, rfl, rfl, trivial⟩ (by simpa [txtSs, funL, fnV] using st) (by simp) ?_
  clear st
  rintro ⟨j, v1⟩ w hj st
  dsimp only at *
  refine vc_seq ?_
  refine vc_region ?_
  refine vc_y rfl rfl (y_lss rfl rfl) ?_
  refine vc_end ?_
  refine vq_then ?_
  refine vc_keep [(0, _), (2, _), (6, _), (24, _), (25, _), (26, _), (27, _)] ⟨rfl, rfl, rfl, rfl, rfl, rfl, rfl, trivial⟩ ?_
  refine vc_seq ?_
  refine vc_ifs rfl ?_ ?_
  · intro hc27
    try simp only [dn] at hc27
    obtain ⟨s, hsj⟩ : ∃ s, ss[j]? = some s := ⟨_, List.getElem?_eq_getElem (by omega)⟩
    obtain ⟨gb, go, rfl, hgS, hgl, hg⟩ := SmRow.at hr (by omega)
    obtain ⟨oe, ob, ol, ce, cb, cl, hsV, hse, hsb, hsl, hc⟩ := hg j s hsj
    have hks := hok.2 j s hsj
    have hz := mem_size hsj
    have hB : szo s.body < szo ss := by have := (sm_kids s).1; omega
    have hL : szo s.els < szo ss := by have := (sm_kids s).2; omega
    have hRs := rightSs_get hR hsj
    have hRi := rightS_iff.1 hRs
    have hk17 := hRi.1
    have hts := txtS_le (d := d) hsj
    have htx := txX_le hRs
    obtain ⟨m, hm⟩ : ∃ m : Nat, s.k = (m : Int) := ⟨s.k.toNat, by omega⟩
    refine vc_code_skip ?_
    refine vq_then ?_
    refine vc_keep [(0, _), (2, _), (6, _), (24, _), (25, _), (26, _)] ⟨rfl, rfl, rfl, rfl, rfl, rfl, trivial⟩ ?_
    refine vc_seq ?_
    refine vc_block ?_
    refine vc_seq ?_
    refine vc_region ?_
    refine vc_y rfl rfl ((by exact y_ia (k := j) rfl rfl Tryd.underlying40 Tryd.sizeOf70 rfl (by omega))) ?_
    refine vc_y rfl rfl ((by exact y_ldca (smL s oe ob ol ce cb cl) rfl Tryd.isAgg70 Tryd.sizeOf70 rfl (fun i v hi => st.chg.cell (hc i v hi) (hW.notin hgS)))) ?_
    refine vc_e (e_al (l := [_, _, _, _, _, _, _]) st rfl rfl Tryd.zeroValue70 rfl ?_)
    intro b8 w hb8 st
    refine vc_e (e_sts (vs := [_, _, _, _, _, _, _]) st 0 rfl rfl rfl rfl rfl Tryd.sizeOf70 rfl rfl (by first | (right; assumption) | (left; simp)) ?_)
    intro w st; dsimp only [setNth, wr] at st
    refine vc_end ?_
    refine vq_then ?_
    refine vc_keep [(0, _), (2, _), (6, _), (8, _), (24, _), (25, _), (26, _)] ⟨rfl, rfl, rfl, rfl, rfl, rfl, rfl, trivial⟩ ?_
    refine vc_seq ?_
    refine vc_seq ?_
    refine vc_region ?_
    obtain ⟨lq, many, hb, ho, hws, hx1, hx2⟩ := st.wrGet (i := 2) rfl
    refine vc_y rfl rfl (y_mv rfl) ?_
    refine vc_y rfl rfl (y_nck rfl) ?_
    refine vc_y rfl rfl ((by exact y_faz (k := 1) rfl Tryd.underlying47 rfl rfl Tryd.sizeOf4 rfl)) ?_
    refine vc_y rfl rfl ((by exact y_ldc rfl Tryd.isAgg4 (ptr_cell hb))) ?_
    refine vc_end ?_
    refine vq_then ?_
    refine vc_keep [(0, _), (2, _), (6, _), (8, _), (24, _), (25, _), (26, _), (33, _)] ⟨rfl, rfl, rfl, rfl, rfl, rfl, rfl, rfl, trivial⟩ ?_
    refine vc_ifs rfl ?_ ?_
    · intro hc33
      try simp only [dn] at hc33
      refine vc_ret ?_
      refine vq_then_ret ?_
      refine vq_block_ret ?_
      refine vq_then_ret ?_
      refine vq_then_ret ?_
      refine vq_block_ret ?_
      refine vq_ret0 (.inl rfl) Tryd.results21 ?_
      refine ⟨_, rfl, ?_⟩
      refine ⟨rfl, ?_⟩
      have hm : many = true := by assumption
      subst hm
      rw [txtSs_split ss d j, ← List.append_assoc]
      exact (st.wrDone (i := 2) rfl).over hb
    · intro hc33
      try simp only [dn] at hc33
      refine vc_code_skip ?_
      refine vq_then ?_
      refine vc_keep [(0, _), (2, _), (6, _), (8, _), (24, _), (25, _), (26, _)] ⟨rfl, rfl, rfl, rfl, rfl, rfl, rfl, trivial⟩ ?_
      refine vc_draw Tryd.mixed [(0, true), (1, true), (2, true), (3, true), (4, true), (5, true), (6, false)] (fun w => St _ _ [.blk b8 (.cells (smL s oe ob ol ce cb cl).toArray 70 (0, 0)), .blk b6 (.cells (funL bw).toArray 88 (0, 0))] w) (by exact st.drop (by repeat (first | exact sl0 | apply sl1 | apply sl2))) (by kernel_rfl) (by repeat (first | exact okQ_body | refine okQ_then ?_ | refine okQ_block ?_)) rfl (by kernel_rfl) ?_
      intro w cd; replace st := st.call0 cd; clear cd
      have hS : St _ _ [.blk b8 (.cells (smL s oe ob ol ce cb cl).toArray 70 (0, 0)), .blk b6 (.cells (funL bw).toArray 88 (0, 0))] w := (by exact st.drop (by repeat (first | exact sl0 | apply sl1 | apply sl2)))
      refine vp_take rfl rfl rfl hS (fun w st => y_fa0 rfl Tryd.underlying70 rfl rfl Tryd.sizeOf68 rfl) ?_
      refine vp_take rfl rfl rfl hS (fun w st => (by exact y_ld st 0 rfl Tryd.isAgg68 rfl rfl)) ?_
      refine vp_take rfl rfl rfl hS (fun w st => y_iaa (k := m) rfl rfl Tryd.underlying88 Tryd.sizeOf87 hm (by omega)) ?_
      refine vp_take rfl rfl rfl hS (fun w st => (by exact y_ldc rfl Tryd.isAgg87 (fun_at (st.res (i := 1) rfl) (by omega) (by omega)))) ?_
      refine vp_take rfl rfl rfl hS (fun w st => (by exact y_lda (vs := [_, _, _, _, _, _, _]) st 0 rfl Tryd.isAgg70 Tryd.sizeOf70 rfl rfl)) ?_
      refine vp_take rfl rfl rfl hS (fun w st => y_mv rfl) ?_
      refine vp_do rfl (e_callv [_, _] rfl rfl rfl (fnOf_call m (by omega) (by omega)) rfl (wstmt_any s m hm d hd hRs hks oe ob ol ce cb cl bw _ _ _ (hse.kept (hsame st.chg)) (hsb.kept (hsame st.chg)) (hsl.kept (hsame st.chg)) (st.wrGet (i := 2) rfl) (Nat.le_trans hn0 st.chg.size) h0 (hsg.kept' st.chg (hW.notin h0)) (by omega) (fun l hl bw v F oa cap w hr hW hn hsg hd => ih (szo l) (by rcases hl with h | h <;> subst h <;> omega) l rfl (d + 1) (by omega) (by rcases hl with h | h <;> subst h; exact hRi.2.2.2.2.2.2.2.1; exact hRi.2.2.2.2.2.2.2.2) (by rcases hl with h | h <;> subst h; exact hks.body; exact hks.els) (by have := within_le hRs hl; omega) bw v F oa cap w hr hW hn h0 hsg)) ?_)
      rintro _ w ⟨rfl, hp⟩
      obtain ⟨v9, st⟩ := st.wr (i := 2) rfl hp
      dsimp only [setNth] at st
      refine vp_next (by exact st.drop (by repeat (first | exact sl0 | apply sl1 | apply sl2))) ?_; intro hS
      refine vp_end ?_
      refine vq_block ?_
      refine vq_then ?_
      refine vc_keep [(0, _), (2, _), (6, _), (24, _), (25, _), (26, _)] ⟨rfl, rfl, rfl, rfl, rfl, rfl, trivial⟩ ?_
      refine vc_region ?_
      refine vc_y rfl rfl (y_add rfl rfl (by omega : _ = ((j + 1 : Nat) : Int)) (by omega) (by omega)) ?_
      refine vc_y rfl rfl (y_mv rfl) ?_
      refine vc_end ?_
      refine vq_again (j + 1, v9)  ⟨rfl, rfl, rfl, rfl, rfl, rfl, trivial⟩ (by rw [txtSs_succ hsj, ← List.append_assoc]; exact st.drop (by repeat (first | exact sl0 | apply sl1 | apply sl2))) ?_ ?_
      · dsimp only; omega
      · dsimp only; omega
  · intro hc27
    try simp only [dn] at hc27
    refine vc_exit ?_
    refine vq_then_exit ?_
    refine vq_then_exit ?_
    refine vq_block_exit ?_
    refine vq_ret0 (.inr rfl) Tryd.results21 ?_
    refine ⟨_, rfl, ?_⟩
    refine ⟨rfl, ?_⟩
    obtain rfl : j = ss.length := by omega
    rw [List.take_length] at st
    exact st.wrDone (i := 1) rfl

end
end Go.Proofs.YtnmhlpnapgojjaaDoor


namespace Go.Proofs.YtnmhlpnapgojjaaDoor
open Go.RowKit Sx LexS
set_option linter.unusedVariables false
set_option linter.unusedSimpArgs false
theorem Sig.pos {w : World} (h : Sig w) : 0 < w.heap.size := World.block_lt_of_cell? w _ (h 0 (by omega)).1
theorem thT_le {p : Pg} {j : Nat} {t : Th} (h : p.threads[j]? = some t) : (txtSs t.body 1).length ≤ (pgT p).length := by
  have h1 := pgT_le p (j + 1)
  rw [thsT_succ h] at h1
  unfold thT at h1
  simp at h1
  omega
set_option maxHeartbeats 2000000 in
theorem wprintP_any (p : Pg) (os ol ot : Option Addr) (cs cl ct : Nat) (w : World) (hS : DcRow w (· < w.heap.size) os p.shared) (hL : DcRow w (· < w.heap.size) ol p.locks) (hT : ThRow w (· < w.heap.size) ot p.threads) (hok : OkP p) (hsg : Sig w) (hlen : pgOk p = true → (pgT p).length ≤ 1099511627776) :
    Ret Tryd.prog 7 [.agg (pgL p os ol ot cs cl ct).toArray] w fun v w' => v = .tuple #[str (pgRes p).1, .int .i64 ((pgRes p).2 : Int)] ∧ Chg [] w w' := by
  refine ret_of [_] Tryd.func7 rfl Tryd.ntmps7 rfl ?_
  have st := St.init w []
  obtain ⟨w0, rfl⟩ : ∃ w0, w0 = w := ⟨_, rfl⟩
  have hn3 := hok.2.2.1
  have h0 := hsg.pos
  refine vc_seq ?_
  refine vc_region ?_
  refine vc_e (e_bx (l := [_, _, _]) st rfl rfl rfl rfl ?_)
  intro b1 w hb1 st
  refine vc_y rfl rfl (y_as rfl) ?_
  refine vc_y rfl rfl (y_as rfl) ?_
  refine vc_end ?_
  refine vq_then ?_
  refine vc_keep [(1, _)] ⟨rfl, trivial⟩ ?_
  refine vc_seq ?_
  refine vc_seq ?_
  refine vc_region ?_
  refine vc_y rfl rfl ((by exact y_lda (vs := [_, _, _]) st 0 rfl Tryd.isAgg25 Tryd.sizeOf25 rfl rfl)) ?_
  refine vc_e (e_call [_] rfl rfl Tryd.call18 rfl (right_any p _ _ _ _ _ _ _ (RowC.kept hS (Same.of_nil st.chg)) (RowC.kept hL (Same.of_nil st.chg)) (hT.kept (Same.of_nil st.chg)) hok (hsg.kept st.chg)) ?_)
  rintro _ w ⟨rfl, cw⟩
  replace st := st.call0 cw
  refine vc_y rfl rfl (y_not rfl) ?_
  refine vc_end ?_
  refine vq_then ?_
  refine vc_keep [(1, _), (9, _)] ⟨rfl, rfl, trivial⟩ ?_
  refine vc_ifs rfl ?_ ?_
  · intro hc9
    try simp only [dn] at hc9
    refine vc_seq ?_
    refine vc_region ?_
    refine vc_y rfl rfl (y_as rfl) ?_
    refine vc_y rfl rfl (y_as rfl) ?_
    refine vc_end ?_
    refine vq_then ?_
    refine vc_keep [(2, _), (3, _)] ⟨rfl, rfl, trivial⟩ ?_
    refine vc_ret ?_
    refine vq_then_ret ?_
    refine vq_ret2 st (.inl rfl) Tryd.results7 (.tmp rfl) (.tmp rfl) ?_
    refine ⟨_, rfl, ?_⟩
    refine ⟨?_, st.chg⟩
    rw [pgRes_no (by assumption)]; rfl
  · intro hc9
    try simp only [dn] at hc9
    refine vc_code_skip ?_
    refine vq_then ?_
    refine vc_keep [(1, _)] ⟨rfl, trivial⟩ ?_
    refine vc_seq ?_
    refine vc_region ?_
    refine vc_y rfl rfl (y_bld (.agg #[_, _]) [] rfl (fun w => by simp [Instr.build, go_sem] <;> repeat' constructor)) ?_
    refine vc_e (e_bx (l := [_, _]) st rfl rfl rfl rfl ?_)
    intro b11 w hb11 st
    refine vc_y rfl rfl (y_as rfl) ?_
    refine vc_end ?_
    refine vq_then ?_
    refine vc_keep [(1, _), (4, _)] ⟨rfl, rfl, trivial⟩ ?_
    refine vc_seq ?_
    refine vc_region ?_
    obtain ⟨bw, rfl⟩ : ∃ bw, bw = b11 := ⟨_, rfl⟩
    have hpo : pgOk p = true := by assumption
    replace hlen := hlen hpo
    obtain ⟨q1, q2, q3⟩ := pgOk_inv hpo
    replace st := st.wrNew (E := 5) (n0 := w0.heap.size) hb11 (Nat.le_refl _)
    refine vc_y rfl rfl (y_mv rfl) ?_
    refine vc_y rfl rfl (y_fa0 rfl Tryd.underlying25 rfl rfl Tryd.sizeOf22 rfl) ?_
    refine vc_y rfl rfl ((by exact y_ld st 1 rfl Tryd.isAgg22 rfl rfl)) ?_
    refine vc_e (e_call [_, _, _, _] rfl rfl Tryd.call19 rfl (wdecls_any p.shared true q1 hok.1 [115, 104, 97, 114, 101, 100] (by simp) 0 (by omega) _ _ bw _ _ _ (RowC.kept hS (Same.of_nil st.chg)) (st.wrGet (i := 0) rfl) st.chg.size) ?_)
    rintro _ w ⟨rfl, hp⟩
    obtain ⟨v9, st⟩ := st.wr (i := 0) rfl hp
    dsimp only [setNth] at st
    refine vc_end ?_
    refine vq_then ?_
    refine vc_keep [(1, _), (4, _)] ⟨rfl, rfl, trivial⟩ ?_
    refine vc_seq ?_
    refine vc_region ?_
    refine vc_y rfl rfl (y_mv rfl) ?_
    refine vc_y rfl rfl ((by exact y_faz (k := 1) rfl Tryd.underlying25 rfl rfl Tryd.sizeOf22 rfl)) ?_
    refine vc_y rfl rfl ((by exact y_ld st 1 rfl Tryd.isAgg22 rfl rfl)) ?_
    refine vc_e (e_call [_, _, _, _] rfl rfl Tryd.call19 rfl (wdecls_any p.locks false q2 hok.2.1 [108, 111, 99, 107] (by simp) 0 (by omega) _ _ bw _ _ _ (RowC.kept hL (Same.of_nil st.chg)) (st.wrGet (i := 0) rfl) st.chg.size) ?_)
    rintro _ w ⟨rfl, hp⟩
    obtain ⟨v9, st⟩ := st.wr (i := 0) rfl hp
    dsimp only [setNth] at st
    refine vc_end ?_
    refine vq_then ?_
    refine vc_keep [(1, _), (4, _)] ⟨rfl, rfl, trivial⟩ ?_
    refine vc_seq ?_
    refine vc_seq ?_
    refine vc_region ?_
    refine vc_y rfl rfl ((by exact y_faz (k := 2) rfl Tryd.underlying25 rfl rfl Tryd.sizeOf23 rfl)) ?_
    refine vc_y rfl rfl ((by exact y_ld st 1 rfl Tryd.isAgg23 rfl rfl)) ?_
    refine vc_y rfl rfl (y_lensl rfl Tryd.underlying23) ?_
    refine vc_y rfl rfl (y_mv rfl) ?_
    refine vc_end ?_
    refine vq_then ?_
    refine vc_keep [(4, _), (21, _), (22, _), (23, _)] ⟨rfl, rfl, rfl, rfl, trivial⟩ ?_
    refine vc_block ?_
    refine vc_loop (w0 := w0) (M := []) (fun (x : Nat × Value) => [(4, .pointer (some ⟨bw, 0, none⟩)), (21, .slice ot p.threads.length ct), (22, .int .i64 (p.threads.length : Int)), (23, .int .i64 (x.1 : Int))]) (fun x => [wrR [] w0.heap.size 5 w0.heap.size 47 bw x.2 (pgH p ++ thsT (p.threads.take x.1))]) (fun x _ => x.1 ≤ p.threads.length) (fun x => p.threads.length - x.1) (0, v9) ⟨rfl, rfl, rfl, rfl, trivial⟩ (by simpa [thsT, pgH] using (st.drop (by repeat (first | exact sl0 | apply sl1 | apply sl2)) : St w0 [] [wrR [] w0.heap.size 5 w0.heap.size 47 bw v9 _] w)) (by simp) ?_
    clear st
    rintro ⟨j, v1⟩ w hj st
    dsimp only at *
    refine vc_seq ?_
    refine vc_region ?_
    refine vc_y rfl rfl (y_lss rfl rfl) ?_
    refine vc_end ?_
    refine vq_then ?_
    refine vc_keep [(4, _), (21, _), (22, _), (23, _), (24, _)] ⟨rfl, rfl, rfl, rfl, rfl, trivial⟩ ?_
    refine vc_seq ?_
    refine vc_ifs rfl ?_ ?_
    · intro hc24
      try simp only [dn] at hc24
      have stK := st
      obtain ⟨t, htj⟩ : ∃ t, p.threads[j]? = some t := ⟨_, List.getElem?_eq_getElem (by omega)⟩
      obtain ⟨gb, go, rfl, hgS, hgl, hg⟩ := ThRow.at hT (by omega)
      obtain ⟨tl, tb, cll, cbb, htl, htb, hc⟩ := hg j t htj
      have hkt := hok.2.2.2 j t htj
      obtain ⟨t1, t2, t3⟩ := q3 j t htj
      have hnl := isName_le t1
      have htle := thT_le htj
      have st := stK
      clear stK
      refine vc_code_skip ?_
      refine vq_then ?_
      refine vc_keep [(4, _), (21, _), (22, _), (23, _)] ⟨rfl, rfl, rfl, rfl, trivial⟩ ?_
      refine vc_seq ?_
      refine vc_block ?_
      refine vc_seq ?_
      refine vc_region ?_
      refine vc_y rfl rfl ((by exact y_ia (k := j) rfl rfl Tryd.underlying23 Tryd.sizeOf42 rfl (by omega))) ?_
      refine vc_y rfl rfl ((by exact y_ldca (thL t tl tb cll cbb) rfl Tryd.isAgg42 Tryd.sizeOf42 rfl (fun i v hi => st.chg.cell (hc i v hi) (by simp)))) ?_
      refine vc_e (e_al (l := [_, _, _, _]) st rfl rfl Tryd.zeroValue42 rfl ?_)
      intro b6 w hb6 st
      refine vc_e (e_sts (vs := [_, _, _, _]) st 0 rfl rfl rfl rfl rfl Tryd.sizeOf42 rfl rfl (by first | (right; assumption) | (left; simp)) ?_)
      intro w st; dsimp only [setNth, wr] at st
      refine vc_end ?_
      refine vq_then ?_
      refine vc_keep [(4, _), (6, _), (21, _), (22, _), (23, _)] ⟨rfl, rfl, rfl, rfl, rfl, trivial⟩ ?_
      refine vc_seq ?_
      refine vc_region ?_
      refine vc_y rfl rfl (y_mv rfl) ?_
      refine vc_y rfl rfl (y_fa0 rfl Tryd.underlying42 rfl rfl Tryd.sizeOf9 rfl) ?_
      refine vc_y rfl rfl ((by exact y_ld st 0 rfl Tryd.isAgg9 rfl rfl)) ?_
      refine vc_e (e_bsn (l := [[116, 104, 114, 101, 97, 100, 32], t.nm, [32, 123]].map str) (E := 9) st [(0, _), (1, _), (2, _)] rfl rfl rfl (fun w => by simp [Instr.buildSlice, run_underlying Tryd.underlying36, Tryd.sizeOf9, Tryd.zeroValue9, Instr.fill, newRow, newObj, Sem.run, go_sem]) ?_)
      intro b30 w hb30 st
      refine vc_e (e_call [_, _, _] rfl rfl Tryd.call20 rfl (line_any repeat_any bw _ _ 0 (by omega) [[116, 104, 114, 101, 97, 100, 32], t.nm, [32, 123]] (by simp) (by simp; try omega) b30 _ _ (st.wrGet (i := 2) rfl) st.chg.size (fun j x hx => cell_nth (st.res (i := 0) rfl) (strs_nth hx)) (fun hk => apart_nth st.nodup (i := 0) (j := 2) (by decide) rfl rfl _ (.head _) hk)) ?_)
      rintro _ w ⟨rfl, hp⟩
      obtain ⟨v9, st⟩ := st.wr (i := 2) rfl hp
      dsimp only [setNth] at st
      refine vc_end ?_
      refine vq_then ?_
      refine vc_keep [(4, _), (6, _), (21, _), (22, _), (23, _)] ⟨rfl, rfl, rfl, rfl, rfl, trivial⟩ ?_
      refine vc_seq ?_
      refine vc_region ?_
      refine vc_y rfl rfl (y_mv rfl) ?_
      refine vc_y rfl rfl ((by exact y_faz (k := 1) rfl Tryd.underlying42 rfl rfl Tryd.sizeOf22 rfl)) ?_
      refine vc_y rfl rfl ((by exact y_ld st 1 rfl Tryd.isAgg22 rfl rfl)) ?_
      refine vc_e (e_call [_, _, _, _] rfl rfl Tryd.call19 rfl (wdecls_any t.locals false t2 hkt.1 [108, 111, 99, 97, 108] (by simp) 1 (by omega) _ _ bw _ _ _ (RowC.kept htl (Same.of_nil st.chg)) (st.wrGet (i := 2) rfl) st.chg.size) ?_)
      rintro _ w ⟨rfl, hp⟩
      obtain ⟨v9, st⟩ := st.wr (i := 2) rfl hp
      dsimp only [setNth] at st
      refine vc_end ?_
      refine vq_then ?_
      refine vc_keep [(4, _), (6, _), (21, _), (22, _), (23, _)] ⟨rfl, rfl, rfl, rfl, rfl, trivial⟩ ?_
      refine vc_seq ?_
      refine vc_region ?_
      refine vc_y rfl rfl (y_mv rfl) ?_
      refine vc_y rfl rfl ((by exact y_faz (k := 2) rfl Tryd.underlying42 rfl rfl Tryd.sizeOf40 rfl)) ?_
      refine vc_y rfl rfl ((by exact y_ld st 1 rfl Tryd.isAgg40 rfl rfl)) ?_
      refine vc_e (e_call [_, _, _] rfl rfl Tryd.call21 rfl (wblock_any _ t.body rfl 1 (by omega) t3 hkt.2.1 (by omega) bw _ _ _ _ _ (htb.kept (Same.of_nil st.chg)) (st.wrGet (i := 2) rfl) st.chg.size h0 (hsg.kept st.chg)) ?_)
      rintro _ w ⟨rfl, hp⟩
      obtain ⟨v9, st⟩ := st.wr (i := 2) rfl hp
      dsimp only [setNth] at st
      refine vc_end ?_
      refine vq_then ?_
      refine vc_keep [(4, _), (21, _), (22, _), (23, _)] ⟨rfl, rfl, rfl, rfl, trivial⟩ ?_
      refine vc_region ?_
      refine vc_y rfl rfl (y_mv rfl) ?_
      refine vc_e (e_bsn (l := [[125]].map str) (E := 9) st [(0, _)] rfl rfl rfl (fun w => by simp [Instr.buildSlice, run_underlying Tryd.underlying36, Tryd.sizeOf9, Tryd.zeroValue9, Instr.fill, newRow, newObj, Sem.run, go_sem]) ?_)
      intro b41 w hb41 st
      refine vc_e (e_call [_, _, _] rfl rfl Tryd.call20 rfl (line_any repeat_any bw _ _ 0 (by omega) [[125]] (by simp) (by simp; try omega) b41 _ _ (st.wrGet (i := 3) rfl) st.chg.size (fun j x hx => cell_nth (st.res (i := 0) rfl) (strs_nth hx)) (fun hk => apart_nth st.nodup (i := 0) (j := 3) (by decide) rfl rfl _ (.head _) hk)) ?_)
      rintro _ w ⟨rfl, hp⟩
      obtain ⟨v9, st⟩ := st.wr (i := 3) rfl hp
      dsimp only [setNth] at st
      refine vc_end ?_
      refine vq_block ?_
      refine vq_then ?_
      refine vc_keep [(4, _), (21, _), (22, _), (23, _)] ⟨rfl, rfl, rfl, rfl, trivial⟩ ?_
      refine vc_region ?_
      refine vc_y rfl rfl (y_add rfl rfl (by omega : _ = ((j + 1 : Nat) : Int)) (by omega) (by omega)) ?_
      refine vc_y rfl rfl (y_mv rfl) ?_
      refine vc_end ?_
      refine vq_again (j + 1, v9)  ⟨rfl, rfl, rfl, rfl, trivial⟩ (by rw [thsT_succ htj]; unfold thT; simpa [List.append_assoc, mar] using st.pick [3] rfl (by decide)) ?_ ?_
      · dsimp only; omega
      · dsimp only; omega
    · intro hc24
      try simp only [dn] at hc24
      obtain rfl : j = p.threads.length := by omega
      rw [List.take_length, ← pgT_eq] at st
      obtain ⟨l2, many2, hb2, ho2, hws2, -, -⟩ := st.wrGet (i := 0) rfl
      obtain ⟨oq, cq, hvq⟩ := slice_form ho2
      subst hvq
      refine vc_exit ?_
      refine vq_then_exit ?_
      refine vq_then_exit ?_
      refine vq_block_exit ?_
      refine vq_then ?_
      refine vc_keep [(4, _)] ⟨rfl, trivial⟩ ?_
      refine vc_seq ?_
      refine vc_seq ?_
      refine vc_region ?_
      refine vc_y rfl rfl (y_mv rfl) ?_
      refine vc_y rfl rfl (y_nck rfl) ?_
      refine vc_y rfl rfl ((by exact y_faz (k := 1) rfl Tryd.underlying47 rfl rfl Tryd.sizeOf4 rfl)) ?_
      refine vc_y rfl rfl ((by exact y_ldc rfl Tryd.isAgg4 (ptr_cell hb2))) ?_
      refine vc_end ?_
      refine vq_then ?_
      refine vc_keep [(4, _), (47, _)] ⟨rfl, rfl, trivial⟩ ?_
      refine vc_ifs rfl ?_ ?_
      · intro hc47
        try simp only [dn] at hc47
        refine vc_seq ?_
        refine vc_region ?_
        refine vc_y rfl rfl (y_as rfl) ?_
        refine vc_y rfl rfl (y_as rfl) ?_
        refine vc_end ?_
        refine vq_then ?_
        refine vc_keep [(2, _), (3, _)] ⟨rfl, rfl, trivial⟩ ?_
        refine vc_ret ?_
        refine vq_then_ret ?_
        refine vq_ret2 st (.inl rfl) Tryd.results7 (.tmp rfl) (.tmp rfl) ?_
        refine ⟨_, rfl, ?_⟩
        refine ⟨?_, st.chg⟩
        first
          | (have hm : many2 = true := by assumption
             subst hm
             rw [pgRes_long hpo (WS.long hws2)]; rfl)
          | (have hm : many2 = false := by assumption
             subst hm
             obtain ⟨h1, h2⟩ := WS.yes hws2
             subst h1
             rw [pgRes_ok hpo h2]; rfl)
      · intro hc47
        try simp only [dn] at hc47
        refine vc_code_skip ?_
        refine vq_then ?_
        refine vc_keep [(4, _)] ⟨rfl, trivial⟩ ?_
        refine vc_seq ?_
        refine vc_region ?_
        refine vc_y rfl rfl (y_mv rfl) ?_
        refine vc_y rfl rfl (y_nck rfl) ?_
        refine vc_y rfl rfl (y_fa0 rfl Tryd.underlying47 rfl rfl Tryd.sizeOf45 rfl) ?_
        refine vc_y rfl rfl ((by exact y_ldc rfl Tryd.isAgg45 (cell_nth (l := [_, _]) hb2 rfl))) ?_
        refine vc_y rfl rfl (y_b2s rfl (p := l2) (own_rdp ho2) rfl Tryd.underlying45 Tryd.underlying5 Tryd.underlying9) ?_
        refine vc_y rfl rfl (y_as rfl) ?_
        refine vc_y rfl rfl (y_as rfl) ?_
        refine vc_end ?_
        refine vq_then ?_
        refine vc_keep [(2, _), (3, _)] ⟨rfl, rfl, trivial⟩ ?_
        refine vc_ret ?_
        refine vq_ret2 st (.inl rfl) Tryd.results7 (.tmp rfl) (.tmp rfl) ?_
        refine ⟨_, rfl, ?_⟩
        refine ⟨?_, st.chg⟩
        first
          | (have hm : many2 = true := by assumption
             subst hm
             rw [pgRes_long hpo (WS.long hws2)]; rfl)
          | (have hm : many2 = false := by assumption
             subst hm
             obtain ⟨h1, h2⟩ := WS.yes hws2
             subst h1
             rw [pgRes_ok hpo h2]; rfl)

theorem wcheckP_any (p : Pg) (os ol ot : Option Addr) (cs cl ct : Nat) (w : World) (hS : DcRow w (· < w.heap.size) os p.shared) (hL : DcRow w (· < w.heap.size) ol p.locks) (hT : ThRow w (· < w.heap.size) ot p.threads) (hok : OkP p) (hsg : Sig w) (hlen : pgOk p = true → (pgT p).length ≤ 1099511627776) :
    Ret Tryd.prog 9 [.agg (pgL p os ol ot cs cl ct).toArray] w fun v w' => v = .int .i64 ((pgRes p).2 : Int) ∧ Chg [] w w' := by
  refine ret_of [_] Tryd.func9 rfl Tryd.ntmps9 rfl ?_
  have st := St.init w []
  obtain ⟨w0, rfl⟩ : ∃ w0, w0 = w := ⟨_, rfl⟩
  refine vc_seq ?_
  refine vc_region ?_
  refine vc_e (e_bx (l := [_, _, _]) st rfl rfl rfl rfl ?_)
  intro b1 w hb1 st
  refine vc_y rfl rfl (y_as rfl) ?_
  refine vc_end ?_
  refine vq_then ?_
  refine vc_keep [(1, _)] ⟨rfl, trivial⟩ ?_
  refine vc_seq ?_
  refine vc_region ?_
  refine vc_y rfl rfl ((by exact y_lda (vs := [_, _, _]) st 0 rfl Tryd.isAgg25 Tryd.sizeOf25 rfl rfl)) ?_
  refine vc_e (e_call [_] rfl rfl Tryd.call7 rfl (wprintP_any p _ _ _ _ _ _ _ (RowC.mono (RowC.kept hS (Same.of_nil st.chg)) (fun b hb => Nat.lt_of_lt_of_le hb st.chg.size)) (RowC.mono (RowC.kept hL (Same.of_nil st.chg)) (fun b hb => Nat.lt_of_lt_of_le hb st.chg.size)) ((hT.kept (Same.of_nil st.chg)).mono (fun b hb => Nat.lt_of_lt_of_le hb st.chg.size)) hok (hsg.kept st.chg) hlen) ?_)
  rintro _ w ⟨rfl, cw⟩
  replace st := st.call0 cw
  refine vc_y rfl rfl (y_mv rfl) ?_
  refine vc_y rfl rfl (y_ext rfl rfl) ?_
  refine vc_y rfl rfl (y_ext rfl rfl) ?_
  refine vc_y rfl rfl (y_as rfl) ?_
  refine vc_y rfl rfl (y_as rfl) ?_
  refine vc_end ?_
  refine vq_then ?_
  refine vc_keep [(4, _)] ⟨rfl, trivial⟩ ?_
  refine vc_seq ?_
  refine vc_region ?_
  refine vc_y rfl rfl (y_mv rfl) ?_
  refine vc_y rfl rfl (y_as rfl) ?_
  refine vc_end ?_
  refine vq_then ?_
  refine vc_keep [(2, _)] ⟨rfl, trivial⟩ ?_
  refine vc_ret ?_
  refine vq_ret1 st (.inl rfl) Tryd.results9 (.tmp rfl) ?_
  refine ⟨_, rfl, ?_⟩
  exact ⟨rfl, st.chg⟩

end Go.Proofs.YtnmhlpnapgojjaaDoor


/- Trees with each name and place turned: no program in sight. -/
namespace LexS
open Sx
set_option linter.unusedVariables false
set_option linter.unusedSimpArgs false
section
variable (g : List UInt8 → List UInt8) (h : Int → Int)
mutual
def trE : Ex → Ex
  | .mk k op wd nm kids a => .mk k op wd (g nm) (trEs kids) (h a)
termination_by structural e => e
def trEs : List Ex → List Ex
  | [] => []
  | e :: r => trE e :: trEs r
termination_by structural l => l
end
mutual
def trS : Sm → Sm
  | .mk k nm other e body els a => .mk k (g nm) (g other) (trEs g h e) (trSs body) (trSs els) (h a)
termination_by structural e => e
def trSs : List Sm → List Sm
  | [] => []
  | e :: r => trS e :: trSs r
termination_by structural l => l
end
def trD (d : Dc) : Dc := ⟨g d.nm, d.wd, h d.a⟩
def trT (t : Th) : Th := ⟨g t.nm, t.locals.map (trD g h), trSs g h t.body, h t.a⟩
def trP (p : Pg) : Pg := ⟨p.shared.map (trD g h), p.locks.map (trD g h), p.threads.map (trT g h)⟩
end
variable {g : List UInt8 → List UInt8} {h : Int → Int}
theorem trEs_map (l : List Ex) : trEs g h l = l.map (trE g h) := by
  induction l with
  | nil => rfl
  | cons x r ih => simp only [trEs, List.map_cons, ih]
theorem trSs_map (l : List Sm) : trSs g h l = l.map (trS g h) := by
  induction l with
  | nil => rfl
  | cons x r ih => simp only [trSs, List.map_cons, ih]
theorem trE_eq (e : Ex) : trE g h e = .mk e.k e.op e.wd (g e.nm) (trEs g h e.kids) (h e.a) := by cases e; rfl
theorem trS_eq (s : Sm) : trS g h s = .mk s.k (g s.nm) (g s.other) (trEs g h s.e) (trSs g h s.body) (trSs g h s.els) (h s.a) := by cases s; rfl
/-- the first 'j' turned -/
def mixL {α : Type} (f : α → α) (l : List α) (j : Nat) : List α := (l.take j).map f ++ l.drop j
theorem mixL_zero {α : Type} {f : α → α} (l : List α) : mixL f l 0 = l := by simp [mixL]
theorem mixL_all {α : Type} {f : α → α} (l : List α) : mixL f l l.length = l.map f := by simp [mixL]
theorem mixL_len {α : Type} {f : α → α} (l : List α) (j : Nat) : (mixL f l j).length = l.length := by simp [mixL]; omega
theorem mixL_get {α : Type} {f : α → α} {l : List α} {j : Nat} {x : α} (hx : l[j]? = some x) : (mixL f l j)[j]? = some x := by
  have hj := (List.getElem?_eq_some_iff.1 hx).1
  unfold mixL
  rw [List.getElem?_append_right (by simp; omega), List.length_map, List.length_take, Nat.min_eq_left (by omega), Nat.sub_self, List.getElem?_drop]
  exact hx
theorem mixL_step {α : Type} {f : α → α} {l : List α} {j : Nat} {x : α} (hx : l[j]? = some x) : (mixL f l j).set j (f x) = mixL f l (j + 1) := by
  obtain ⟨hj, e⟩ := List.getElem?_eq_some_iff.1 hx
  unfold mixL
  rw [List.set_append_right _ _ (by simp; omega), List.length_map, List.length_take, Nat.min_eq_left (by omega), Nat.sub_self, List.drop_eq_getElem_cons hj, List.set_cons_zero, List.take_succ_eq_append_getElem hj, e]
  simp
end LexS

