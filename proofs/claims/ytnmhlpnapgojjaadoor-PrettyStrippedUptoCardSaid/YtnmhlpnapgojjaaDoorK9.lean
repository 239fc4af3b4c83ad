/- A part of the proof: contracts of functions and plain laws; each theorem says its own conditions. -/
import Derived.Test.YtnmhlpnapgojjaaDoorK6
import Derived.Test.YtnmhlpnapgojjaaDoorK8
import Derived.Test.YtnmhlpnapgojjaaDoorK1
import Derived.Test.YtnmhlpnapgojjaaDoorK2
namespace Go.Proofs.YtnmhlpnapgojjaaDoor
open Go.RowKit Sx LexS _root_.Go.Proofs.Tryd
set_option linter.unusedVariables false
set_option linter.unusedSimpArgs false
section
variable {n0 : Nat}
theorem WrP.swap {E T bw : Nat} {v : Value} {F G G' : List UInt8} {w w' : World} (p : WrP E n0 T bw v (F ++ G') w w') (h : G' = G ∨ 65536 < G'.length ∧ 65536 < G.length) : WrP E n0 T bw v (F ++ G) w w' :=
 p.re fun l m v' hb hws => hws.swap h
theorem TxR.same {G r : List UInt8} (h : TxR [] G r) (A B : List UInt8) : A ++ r ++ B = A ++ G ++ B ∨ 65536 < (A ++ r ++ B).length ∧ 65536 < (A ++ G ++ B).length := by
 obtain ⟨h1, h2, -, -⟩ := h
 simp only [List.length_nil, Nat.zero_add, List.nil_append] at h1 h2
 rcases Nat.lt_or_ge 65536 G.length with h | h
 ·
  have := h2 h
  exact .inr ⟨by simp; omega, by simp; omega⟩
 ·
  rw [h1 h]; exact .inl rfl

theorem wskip_any (s : Sm) (hk : s.k = 7) (d : Nat) (hd : d ≤ 64) (oe ob ol : Option Addr) (ce cb cl : Nat) (bw : Nat) (v : Value) (F : List UInt8) (w : World) (hW : Wr 5 n0 47 bw v F w) (hn0 : n0 ≤ w.heap.size) :
    Ret Tryd.prog 56 [.pointer (some ⟨bw, 0, none⟩), .agg (smL s oe ob ol ce cb cl).toArray, .int .i64 (d : Int)] w fun r w' => r = .tuple #[] ∧ WrP 5 n0 47 bw v (F ++ txtS s d) w w' := by
 refine ret_of [_, _, _] func56 rfl ntmps56 rfl ?_
 have st := St.init w []
 clear st
 obtain ⟨w0, rfl⟩ : ∃ w0, w0 = w := ⟨_, rfl⟩
 have st := St.wrInit hW
 refine vc_seq (vc_region ?_)
 refine vc_e (e_bx (l := [_, _, _, _, _, _, _]) st rfl rfl rfl rfl ?_)
 intro b4 w hb4 st
 refine vc_end (vq_then (vc_keep [(0, _), (2, _)] ⟨rfl, rfl, trivial⟩ (vc_region ?_)))
 iterate 2 refine vc_y rfl rfl (y_mv rfl) ?_
 refine vc_e (e_bsn (l := [[115, 107, 105, 112, 59]].map str) (E := 9) st [(0, _)] rfl rfl rfl (fun w => by simp [Instr.buildSlice, run_underlying underlying36, sizeOf9, zeroValue9, Instr.fill, newRow, newObj, Sem.run, go_sem]) ?_)
 intro b8 w hb8 st
 refine vc_e (e_call [_, _, _] rfl rfl call20 rfl (line_any repeat_any bw _ _ d (by omega) [[115, 107, 105, 112, 59]] (by simp) (by simp) b8 _ _ (st.wrGet (i := 2) rfl) (Nat.le_trans hn0 st.chg.size) (fun j x hx => cell_nth (st.res (i := 0) rfl) (strs_nth hx)) (fun hk => apart_nth st.nodup (i := 0) (j := 2) (by decide) rfl rfl _ (.head _) hk)) ?_)
 rintro _ w ⟨rfl, hp⟩
 obtain ⟨v9, st⟩ := st.wr (i := 2) rfl hp
 dsimp only [setNth] at st
 refine vc_end ?_
 refine vq_ret0 (.inr rfl) results56 ?_
 refine ⟨_, rfl, ?_⟩
 refine ⟨rfl, (st.wrDone (i := 2) rfl).eq ?_⟩
 rw [txtS_flat (by omega)]
 unfold hdS
 rw [hk]
 simp

theorem wprintS_any (s : Sm) (hk : s.k = 6) (d : Nat) (hd : d ≤ 64) (hR : rightS s d = true) (hok : OkS s) (oe ob ol : Option Addr) (ce cb cl : Nat) (bw : Nat) (v : Value) (F : List UInt8) (w : World) (hse : ExRow w (· < n0) oe s.e) (hW : Wr 5 n0 47 bw v F w) (hn0 : n0 ≤ w.heap.size) (h0 : 0 < n0) (hsg : Sig w) (hlx : (txX s.e).length ≤ 1099511627776) :
    Ret Tryd.prog 55 [.pointer (some ⟨bw, 0, none⟩), .agg (smL s oe ob ol ce cb cl).toArray, .int .i64 (d : Int)] w fun r w' => r = .tuple #[] ∧ WrP 5 n0 47 bw v (F ++ txtS s d) w w' := by
 refine ret_of [_, _, _] func55 rfl ntmps55 rfl ?_
 have st := St.init w []
 clear st
 obtain ⟨w0, rfl⟩ : ∃ w0, w0 = w := ⟨_, rfl⟩
 have st := St.wrInit hW
 have hsame : ∀ {w1 : World}, Chg (bw :: v.ownBlock.toList) w0 w1 → Same (· < n0) w0 w1 := fun c => hW.same c
 obtain ⟨⟨r1, r1b⟩, r2, r3, r4, r5, r6, r7, r8, r9⟩ := rightS_iff.1 hR
 obtain ⟨x, hx, hlen, hRx⟩ := rightX_inv (by unfold hasE; simp only [decide_eq_true_eq]; omega) r4
 have hxt := txX_eq hx
 have hkx := hok.e.2 0 x hx
 rw [hxt] at hlx
 refine vc_seq (vc_region ?_)
 refine vc_e (e_bx (l := [_, _, _, _, _, _, _]) st rfl rfl rfl rfl ?_)
 intro b4 w hb4 st
 refine vc_end (vq_then (vc_keep [(0, _), (2, _), (4, _)] ⟨rfl, rfl, rfl, trivial⟩ (vc_region ?_)))
 iterate 2 refine vc_y rfl rfl (y_mv rfl) ?_
 refine vc_y rfl rfl ((by exact y_faz (k := 3) rfl underlying70 rfl rfl sizeOf61 rfl)) ?_
 refine vc_y rfl rfl ((by exact y_ld st 0 rfl isAgg61 rfl rfl)) ?_
 refine vc_e (e_call [_] rfl rfl call85 rfl (first_any s.e x hx 0 hRx hkx _ _ _ (hse.kept (hsame st.chg)) (Nat.le_trans hn0 st.chg.size) h0 (hsg.kept' st.chg (hW.notin h0)) hlx) ?_)
 rintro _ w ⟨r, rfl, hT, cw⟩
 replace st := st.call0 cw
 have hTl := hT.2.2.1
 simp only [List.length_nil, Nat.zero_add] at hTl
 refine vc_e (e_bsn (l := [[112, 114, 105, 110, 116, 32], r, [59]].map str) (E := 9) st [(0, _), (1, _), (2, _)] rfl rfl rfl (fun w => by simp [Instr.buildSlice, run_underlying underlying36, sizeOf9, zeroValue9, Instr.fill, newRow, newObj, Sem.run, go_sem]) ?_)
 intro b11 w hb11 st
 refine vc_e (e_call [_, _, _] rfl rfl call20 rfl (line_any repeat_any bw _ _ d (by omega) [[112, 114, 105, 110, 116, 32], r, [59]] (by simp) (by simp; omega) b11 _ _ (st.wrGet (i := 2) rfl) (Nat.le_trans hn0 st.chg.size) (fun j x hx => cell_nth (st.res (i := 0) rfl) (strs_nth hx)) (fun hk => apart_nth st.nodup (i := 0) (j := 2) (by decide) rfl rfl _ (.head _) hk)) ?_)
 rintro _ w ⟨rfl, hp⟩
 obtain ⟨v9, st⟩ := st.wr (i := 2) rfl hp
 dsimp only [setNth] at st
 refine vc_end ?_
 refine vq_ret0 (.inr rfl) results55 ?_
 refine ⟨_, rfl, ?_⟩
 refine ⟨rfl, WrP.swap (st.wrDone (i := 2) rfl) ?_⟩
 rw [txtS_flat (by omega)]
 unfold hdS
 rw [hk, hxt]
 have h := hT.same (mar d ++ [112, 114, 105, 110, 116, 32]) [59, 10]
 simpa [List.append_assoc] using h

theorem wassign_any (s : Sm) (hk : s.k = 1) (d : Nat) (hd : d ≤ 64) (hR : rightS s d = true) (hok : OkS s) (oe ob ol : Option Addr) (ce cb cl : Nat) (bw : Nat) (v : Value) (F : List UInt8) (w : World) (hse : ExRow w (· < n0) oe s.e) (hW : Wr 5 n0 47 bw v F w) (hn0 : n0 ≤ w.heap.size) (h0 : 0 < n0) (hsg : Sig w) (hlx : (txX s.e).length ≤ 1099511627776) :
    Ret Tryd.prog 51 [.pointer (some ⟨bw, 0, none⟩), .agg (smL s oe ob ol ce cb cl).toArray, .int .i64 (d : Int)] w fun r w' => r = .tuple #[] ∧ WrP 5 n0 47 bw v (F ++ txtS s d) w w' := by
 refine ret_of [_, _, _] func51 rfl ntmps51 rfl ?_
 have st := St.init w []
 clear st
 obtain ⟨w0, rfl⟩ : ∃ w0, w0 = w := ⟨_, rfl⟩
 have st := St.wrInit hW
 have hsame : ∀ {w1 : World}, Chg (bw :: v.ownBlock.toList) w0 w1 → Same (· < n0) w0 w1 := fun c => hW.same c
 obtain ⟨⟨r1, r1b⟩, r2, r3, r4, r5, r6, r7, r8, r9⟩ := rightS_iff.1 hR
 obtain ⟨x, hx, hlen, hRx⟩ := rightX_inv (by unfold hasE; simp only [decide_eq_true_eq]; omega) r4
 have hxt := txX_eq hx
 have hkx := hok.e.2 0 x hx
 rw [hxt] at hlx
 have hnm : s.nm.length ≤ 32 := by
  rw [show hasN s.k = true by unfold hasN; simp only [decide_eq_true_eq]; omega] at r2
  exact isName_le (by simpa [nmOk] using r2)
 refine vc_seq (vc_region ?_)
 refine vc_e (e_bx (l := [_, _, _, _, _, _, _]) st rfl rfl rfl rfl ?_)
 intro b4 w hb4 st
 refine vc_end (vq_then (vc_keep [(0, _), (2, _), (4, _)] ⟨rfl, rfl, rfl, trivial⟩ ?_))
 refine vc_draw Tryd.mixed [(0, true), (1, true), (2, true), (3, true), (4, true), (5, true), (6, false), (7, false), (8, false)] (fun w => St _ _ [.blk b4 (.cells (smL s oe ob ol ce cb cl).toArray 70 (0, 0))] w) (by exact st.drop (by repeat (first | exact sl0 | apply sl1 | apply sl2))) (by kernel_rfl) (by repeat (first | exact okQ_body | refine okQ_then ?_ | refine okQ_block ?_)) rfl (by kernel_rfl) ?_
 intro w cd; replace st := st.call0 cd; clear cd
 have hS : St _ _ [.blk b4 (.cells (smL s oe ob ol ce cb cl).toArray 70 (0, 0))] w := (by exact st.drop (by repeat (first | exact sl0 | apply sl1 | apply sl2)))
 iterate 2 refine vp_take rfl rfl rfl hS (fun w st => y_mv rfl) ?_
 refine vp_take rfl rfl rfl hS (fun w st => (by exact y_faz (k := 1) rfl underlying70 rfl rfl sizeOf9 rfl)) ?_
 refine vp_take rfl rfl rfl hS (fun w st => (by exact y_ld st 0 rfl isAgg9 rfl rfl)) ?_
 refine vp_take rfl rfl rfl hS (fun w st => (by exact y_faz (k := 3) rfl underlying70 rfl rfl sizeOf61 rfl)) ?_
 refine vp_take rfl rfl rfl hS (fun w st => (by exact y_ld st 0 rfl isAgg61 rfl rfl)) ?_
 refine vp_do rfl (e_call [_] rfl rfl call85 rfl (first_any s.e x hx 0 hRx hkx _ _ _ (hse.kept (hsame st.chg)) (Nat.le_trans hn0 st.chg.size) h0 (hsg.kept' st.chg (hW.notin h0)) hlx) ?_)
 rintro _ w ⟨r, rfl, hT, cw⟩
 replace st := st.call0 cw
 have hTl := hT.2.2.1
 simp only [List.length_nil, Nat.zero_add] at hTl
 refine vp_next (by exact st.drop (by repeat (first | exact sl0 | apply sl1 | apply sl2))) ?_; intro hS
 refine vp_do rfl (e_bsn (l := [s.nm, [32, 61, 32], r, [59]].map str) (E := 9) st [(0, _), (1, _), (2, _), (3, _)] rfl rfl rfl (fun w => by simp [Instr.buildSlice, run_underlying underlying36, sizeOf9, zeroValue9, Instr.fill, newRow, newObj, Sem.run, go_sem]) ?_)
 intro b13 w hb13 st
 refine vp_next (by exact st.drop (by repeat (first | exact sl0 | apply sl1 | apply sl2))) ?_; intro hS
 refine vp_do rfl (e_call [_, _, _] rfl rfl call20 rfl (line_any repeat_any bw _ _ d (by omega) [s.nm, [32, 61, 32], r, [59]] (by simp) (by simp; omega) b13 _ _ (st.wrGet (i := 2) rfl) (Nat.le_trans hn0 st.chg.size) (fun j x hx => cell_nth (st.res (i := 0) rfl) (strs_nth hx)) (fun hk => apart_nth st.nodup (i := 0) (j := 2) (by decide) rfl rfl _ (.head _) hk)) ?_)
 rintro _ w ⟨rfl, hp⟩
 obtain ⟨v9, st⟩ := st.wr (i := 2) rfl hp
 dsimp only [setNth] at st
 refine vp_next (by exact st.drop (by repeat (first | exact sl0 | apply sl1 | apply sl2))) ?_; intro hS
 refine vp_end ?_
 refine vq_ret0 (.inr rfl) results51 ?_
 refine ⟨_, rfl, ?_⟩
 refine ⟨rfl, WrP.swap (st.wrDone (i := 2) rfl) ?_⟩
 rw [txtS_flat (by omega)]
 unfold hdS
 rw [hk, hxt]
 have h := hT.same (mar d ++ (s.nm ++ [32, 61, 32])) [59, 10]
 simpa [List.append_assoc] using h

theorem wswap_any (s : Sm) (hk : s.k = 2) (d : Nat) (hd : d ≤ 64) (hR : rightS s d = true) (hok : OkS s) (oe ob ol : Option Addr) (ce cb cl : Nat) (bw : Nat) (v : Value) (F : List UInt8) (w : World) (hse : ExRow w (· < n0) oe s.e) (hW : Wr 5 n0 47 bw v F w) (hn0 : n0 ≤ w.heap.size) (h0 : 0 < n0) (hsg : Sig w) (hlx : (txX s.e).length ≤ 1099511627776) :
    Ret Tryd.prog 52 [.pointer (some ⟨bw, 0, none⟩), .agg (smL s oe ob ol ce cb cl).toArray, .int .i64 (d : Int)] w fun r w' => r = .tuple #[] ∧ WrP 5 n0 47 bw v (F ++ txtS s d) w w' := by
 refine ret_of [_, _, _] func52 rfl ntmps52 rfl ?_
 have st := St.init w []
 clear st
 obtain ⟨w0, rfl⟩ : ∃ w0, w0 = w := ⟨_, rfl⟩
 have st := St.wrInit hW
 have hsame : ∀ {w1 : World}, Chg (bw :: v.ownBlock.toList) w0 w1 → Same (· < n0) w0 w1 := fun c => hW.same c
 obtain ⟨⟨r1, r1b⟩, r2, r3, r4, r5, r6, r7, r8, r9⟩ := rightS_iff.1 hR
 obtain ⟨x, hx, hlen, hRx⟩ := rightX_inv (by unfold hasE; simp only [decide_eq_true_eq]; omega) r4
 have hxt := txX_eq hx
 have hkx := hok.e.2 0 x hx
 rw [hxt] at hlx
 have hnm : s.nm.length ≤ 32 := by
  rw [show hasN s.k = true by unfold hasN; simp only [decide_eq_true_eq]; omega] at r2
  exact isName_le (by simpa [nmOk] using r2)
 have hot : s.other.length ≤ 32 := by
  rw [show decide (s.k = 2) = true by simp only [decide_eq_true_eq]; omega] at r3
  exact isName_le (by simpa [nmOk] using r3)
 refine vc_seq (vc_region ?_)
 refine vc_e (e_bx (l := [_, _, _, _, _, _, _]) st rfl rfl rfl rfl ?_)
 intro b4 w hb4 st
 refine vc_end (vq_then (vc_keep [(0, _), (2, _), (4, _)] ⟨rfl, rfl, rfl, trivial⟩ ?_))
 refine vc_draw Tryd.mixed [(0, true), (1, true), (2, true), (3, true), (4, true), (5, true), (6, true), (7, true), (8, false), (9, false), (10, false)] (fun w => St _ _ [.blk b4 (.cells (smL s oe ob ol ce cb cl).toArray 70 (0, 0))] w) (by exact st.drop (by repeat (first | exact sl0 | apply sl1 | apply sl2))) (by kernel_rfl) (by repeat (first | exact okQ_body | refine okQ_then ?_ | refine okQ_block ?_)) rfl (by kernel_rfl) ?_
 intro w cd; replace st := st.call0 cd; clear cd
 have hS : St _ _ [.blk b4 (.cells (smL s oe ob ol ce cb cl).toArray 70 (0, 0))] w := (by exact st.drop (by repeat (first | exact sl0 | apply sl1 | apply sl2)))
 iterate 2 refine vp_take rfl rfl rfl hS (fun w st => y_mv rfl) ?_
 refine vp_take rfl rfl rfl hS (fun w st => (by exact y_faz (k := 1) rfl underlying70 rfl rfl sizeOf9 rfl)) ?_
 refine vp_take rfl rfl rfl hS (fun w st => (by exact y_ld st 0 rfl isAgg9 rfl rfl)) ?_
 refine vp_take rfl rfl rfl hS (fun w st => (by exact y_faz (k := 2) rfl underlying70 rfl rfl sizeOf9 rfl)) ?_
 refine vp_take rfl rfl rfl hS (fun w st => (by exact y_ld st 0 rfl isAgg9 rfl rfl)) ?_
 refine vp_take rfl rfl rfl hS (fun w st => (by exact y_faz (k := 3) rfl underlying70 rfl rfl sizeOf61 rfl)) ?_
 refine vp_take rfl rfl rfl hS (fun w st => (by exact y_ld st 0 rfl isAgg61 rfl rfl)) ?_
 refine vp_do rfl (e_call [_] rfl rfl call85 rfl (first_any s.e x hx 0 hRx hkx _ _ _ (hse.kept (hsame st.chg)) (Nat.le_trans hn0 st.chg.size) h0 (hsg.kept' st.chg (hW.notin h0)) hlx) ?_)
 rintro _ w ⟨r, rfl, hT, cw⟩
 replace st := st.call0 cw
 have hTl := hT.2.2.1
 simp only [List.length_nil, Nat.zero_add] at hTl
 refine vp_next (by exact st.drop (by repeat (first | exact sl0 | apply sl1 | apply sl2))) ?_; intro hS
 refine vp_do rfl (e_bsn (l := [s.nm, [32, 61, 32, 115, 119, 97, 112, 40], s.other, [44, 32], r, [41, 59]].map str) (E := 9) st [(0, _), (1, _), (2, _), (3, _), (4, _), (5, _)] rfl rfl rfl (fun w => by simp [Instr.buildSlice, run_underlying underlying36, sizeOf9, zeroValue9, Instr.fill, newRow, newObj, Sem.run, go_sem]) ?_)
 intro b15 w hb15 st
 refine vp_next (by exact st.drop (by repeat (first | exact sl0 | apply sl1 | apply sl2))) ?_; intro hS
 refine vp_do rfl (e_call [_, _, _] rfl rfl call20 rfl (line_any repeat_any bw _ _ d (by omega) [s.nm, [32, 61, 32, 115, 119, 97, 112, 40], s.other, [44, 32], r, [41, 59]] (by simp) (by simp; omega) b15 _ _ (st.wrGet (i := 2) rfl) (Nat.le_trans hn0 st.chg.size) (fun j x hx => cell_nth (st.res (i := 0) rfl) (strs_nth hx)) (fun hk => apart_nth st.nodup (i := 0) (j := 2) (by decide) rfl rfl _ (.head _) hk)) ?_)
 rintro _ w ⟨rfl, hp⟩
 obtain ⟨v9, st⟩ := st.wr (i := 2) rfl hp
 dsimp only [setNth] at st
 refine vp_next (by exact st.drop (by repeat (first | exact sl0 | apply sl1 | apply sl2))) ?_; intro hS
 refine vp_end ?_
 refine vq_ret0 (.inr rfl) results52 ?_
 refine ⟨_, rfl, ?_⟩
 refine ⟨rfl, WrP.swap (st.wrDone (i := 2) rfl) ?_⟩
 rw [txtS_flat (by omega)]
 unfold hdS
 rw [hk, hxt]
 have h := hT.same (mar d ++ (s.nm ++ [32, 61, 32, 115, 119, 97, 112, 40] ++ s.other ++ [44, 32])) [41, 59, 10]
 simpa [List.append_assoc] using h

end
end Go.Proofs.YtnmhlpnapgojjaaDoor


namespace Go.Proofs.YtnmhlpnapgojjaaDoor
open Go.RowKit Sx LexS _root_.Go.Proofs.Tryd
set_option linter.unusedVariables false
set_option linter.unusedSimpArgs false
section
variable {n0 : Nat}

theorem wlock_any (s : Sm) (hk : s.k = 5) (d : Nat) (hd : d ≤ 64) (hR : rightS s d = true) (hok : OkS s) (oe ob ol : Option Addr) (ce cb cl : Nat) (bw : Nat) (v : Value) (F : List UInt8) (w : World) (hse : ExRow w (· < n0) oe s.e) (hsb : SmRow w (· < n0) ob s.body) (hsl : SmRow w (· < n0) ol s.els) (hW : Wr 5 n0 47 bw v F w) (hn0 : n0 ≤ w.heap.size) (h0 : 0 < n0) (hsg : Sig w) (hlx : (txX s.e).length ≤ 1099511627776) (hrec : ∀ (l : List Sm), (l = s.body ∨ l = s.els) → ∀ (bw : Nat) (v : Value) (F : List UInt8) (oa : Option Addr) (cap : Nat) (w : World), SmRow w (· < n0) oa l → Wr 5 n0 47 bw v F w → n0 ≤ w.heap.size → Sig w → d < 64 →
      Ret Tryd.prog 21 [.pointer (some ⟨bw, 0, none⟩), .slice oa l.length cap, .int .i64 ((d + 1 : Nat) : Int)] w fun r w' => r = .tuple #[] ∧ WrP 5 n0 47 bw v (F ++ txtSs l (d + 1)) w w') :
  Ret Tryd.prog 54 [.pointer (some ⟨bw, 0, none⟩), .agg (smL s oe ob ol ce cb cl).toArray, .int .i64 (d : Int)] w fun r w' => r = .tuple #[] ∧ WrP 5 n0 47 bw v (F ++ txtS s d) w w' := by
 refine ret_of [_, _, _] func54 rfl ntmps54 rfl ?_
 have st := St.init w []
 clear st
 obtain ⟨w0, rfl⟩ : ∃ w0, w0 = w := ⟨_, rfl⟩
 have st := St.wrInit hW
 have hsame : ∀ {w1 : World}, Chg (bw :: v.ownBlock.toList) w0 w1 → Same (· < n0) w0 w1 := fun c => hW.same c
 obtain ⟨⟨r1, r1b⟩, r2, r3, r4, r5, r6, r7, r8, r9⟩ := rightS_iff.1 hR
 have hnm : s.nm.length ≤ 32 := by
  rw [show hasN s.k = true by unfold hasN; simp only [decide_eq_true_eq]; omega] at r2
  exact isName_le (by simpa [nmOk] using r2)
 have hd64 : d < 64 := by
  rcases r7 with h | h
  ·
   have hB : hasB s.k = true := by unfold hasB; simp only [decide_eq_true_eq]; omega
   rw [hB] at h; cases h.1
  ·
   exact h
 refine vc_seq (vc_region ?_)
 refine vc_e (e_bx (l := [_, _, _, _, _, _, _]) st rfl rfl rfl rfl ?_)
 intro b4 w hb4 st
 refine vc_end (vq_then (vc_keep [(0, _), (2, _), (4, _)] ⟨rfl, rfl, rfl, trivial⟩ (vc_seq (vc_region ?_))))
 iterate 2 refine vc_y rfl rfl (y_mv rfl) ?_
 refine vc_y rfl rfl ((by exact y_faz (k := 1) rfl underlying70 rfl rfl sizeOf9 rfl)) ?_
 refine vc_y rfl rfl ((by exact y_ld st 0 rfl isAgg9 rfl rfl)) ?_
 refine vc_e (e_bsn (l := [[108, 111, 99, 107, 32], s.nm, [32, 123]].map str) (E := 9) st [(0, _), (1, _), (2, _)] rfl rfl rfl (fun w => by simp [Instr.buildSlice, run_underlying underlying36, sizeOf9, zeroValue9, Instr.fill, newRow, newObj, Sem.run, go_sem]) ?_)
 intro b10 w hb10 st
 refine vc_e (e_call [_, _, _] rfl rfl call20 rfl (line_any repeat_any bw _ _ d (by omega) [[108, 111, 99, 107, 32], s.nm, [32, 123]] (by simp) (by simp; omega) b10 _ _ (st.wrGet (i := 2) rfl) (Nat.le_trans hn0 st.chg.size) (fun j x hx => cell_nth (st.res (i := 0) rfl) (strs_nth hx)) (fun hk => apart_nth st.nodup (i := 0) (j := 2) (by decide) rfl rfl _ (.head _) hk)) ?_)
 rintro _ w ⟨rfl, hp⟩
 obtain ⟨v9, st⟩ := st.wr (i := 2) rfl hp
 dsimp only [setNth] at st
 refine vc_end (vq_then (vc_keep [(0, _), (2, _), (4, _)] ⟨rfl, rfl, rfl, trivial⟩ (vc_seq (vc_region ?_))))
 refine vc_y rfl rfl (y_mv rfl) ?_
 refine vc_y rfl rfl ((by exact y_faz (k := 4) rfl underlying70 rfl rfl sizeOf40 rfl)) ?_
 refine vc_y rfl rfl ((by exact y_ld st 1 rfl isAgg40 rfl rfl)) ?_
 refine vc_y rfl rfl (y_mv rfl) ?_
 refine vc_y rfl rfl (y_add rfl rfl (by omega : _ = ((d + 1 : Nat) : Int)) (by omega) (by omega)) ?_
 refine vc_e (e_call [_, _, _] rfl rfl call21 rfl (hrec _ (.inl rfl) bw _ _ _ _ _ (hsb.kept (hsame st.chg)) (st.wrGet (i := 2) rfl) (Nat.le_trans hn0 st.chg.size) (hsg.kept' st.chg (hW.notin h0)) hd64) ?_)
 rintro _ w ⟨rfl, hp⟩
 obtain ⟨v9, st⟩ := st.wr (i := 2) rfl hp
 dsimp only [setNth] at st
 refine vc_end (vq_then (vc_keep [(0, _), (2, _)] ⟨rfl, rfl, trivial⟩ (vc_region ?_)))
 iterate 2 refine vc_y rfl rfl (y_mv rfl) ?_
 refine vc_e (e_bsn (l := [[125]].map str) (E := 9) st [(0, _)] rfl rfl rfl (fun w => by simp [Instr.buildSlice, run_underlying underlying36, sizeOf9, zeroValue9, Instr.fill, newRow, newObj, Sem.run, go_sem]) ?_)
 intro b20 w hb20 st
 refine vc_e (e_call [_, _, _] rfl rfl call20 rfl (line_any repeat_any bw _ _ d (by omega) [[125]] (by simp) (by simp) b20 _ _ (st.wrGet (i := 3) rfl) (Nat.le_trans hn0 st.chg.size) (fun j x hx => cell_nth (st.res (i := 0) rfl) (strs_nth hx)) (fun hk => apart_nth st.nodup (i := 0) (j := 3) (by decide) rfl rfl _ (.head _) hk)) ?_)
 rintro _ w ⟨rfl, hp⟩
 obtain ⟨v9, st⟩ := st.wr (i := 3) rfl hp
 dsimp only [setNth] at st
 refine vc_end ?_
 refine vq_ret0 (.inr rfl) results54 ?_
 refine ⟨_, rfl, ?_⟩
 refine ⟨rfl, (st.wrDone (i := 3) rfl).eq ?_⟩
 rw [txtS_lock hk]
 unfold hdS
 rw [hk]
 simp [List.append_assoc]

theorem wcond_any (s : Sm) (hk : s.k = 3 ∨ s.k = 4) (d : Nat) (hd : d ≤ 64) (hR : rightS s d = true) (hok : OkS s) (oe ob ol : Option Addr) (ce cb cl : Nat) (bw : Nat) (v : Value) (F : List UInt8) (w : World) (hse : ExRow w (· < n0) oe s.e) (hsb : SmRow w (· < n0) ob s.body) (hsl : SmRow w (· < n0) ol s.els) (hW : Wr 5 n0 47 bw v F w) (hn0 : n0 ≤ w.heap.size) (h0 : 0 < n0) (hsg : Sig w) (hlx : (txX s.e).length ≤ 1099511627776) (hrec : ∀ (l : List Sm), (l = s.body ∨ l = s.els) → ∀ (bw : Nat) (v : Value) (F : List UInt8) (oa : Option Addr) (cap : Nat) (w : World), SmRow w (· < n0) oa l → Wr 5 n0 47 bw v F w → n0 ≤ w.heap.size → Sig w → d < 64 →
      Ret Tryd.prog 21 [.pointer (some ⟨bw, 0, none⟩), .slice oa l.length cap, .int .i64 ((d + 1 : Nat) : Int)] w fun r w' => r = .tuple #[] ∧ WrP 5 n0 47 bw v (F ++ txtSs l (d + 1)) w w') :
  Ret Tryd.prog 53 [.pointer (some ⟨bw, 0, none⟩), .agg (smL s oe ob ol ce cb cl).toArray, .int .i64 (d : Int)] w fun r w' => r = .tuple #[] ∧ WrP 5 n0 47 bw v (F ++ txtS s d) w w' := by
 refine ret_of [_, _, _] func53 rfl ntmps53 rfl ?_
 have st := St.init w []
 clear st
 obtain ⟨w0, rfl⟩ : ∃ w0, w0 = w := ⟨_, rfl⟩
 have st := St.wrInit hW
 have hsame : ∀ {w1 : World}, Chg (bw :: v.ownBlock.toList) w0 w1 → Same (· < n0) w0 w1 := fun c => hW.same c
 obtain ⟨⟨r1, r1b⟩, r2, r3, r4, r5, r6, r7, r8, r9⟩ := rightS_iff.1 hR
 obtain ⟨x, hx, hlen, hRx⟩ := rightX_inv (by unfold hasE; simp only [decide_eq_true_eq]; omega) r4
 have hxt := txX_eq hx
 have hkx := hok.e.2 0 x hx
 rw [hxt] at hlx
 have hd64 : d < 64 := by
  rcases r7 with h | h
  ·
   have hB : hasB s.k = true := by unfold hasB; simp only [decide_eq_true_eq]; omega
   rw [hB] at h; cases h.1
  ·
   exact h
 refine vc_seq (vc_region ?_)
 refine vc_e (e_bx (l := [_, _, _, _, _, _, _]) st rfl rfl rfl rfl ?_)
 intro b4 w hb4 st
 refine vc_end (vq_then (vc_keep [(0, _), (2, _), (4, _)] ⟨rfl, rfl, rfl, trivial⟩ (vc_seq (vc_region ?_))))
 refine vc_y rfl rfl (y_as rfl) ?_
 refine vc_end (vq_then (vc_keep [(0, _), (2, _), (4, _), (6, _)] ⟨rfl, rfl, rfl, rfl, trivial⟩ ?_))
 refine vc_cut (w0 := w0) (M := (bw :: v.ownBlock.toList)) (fun (_ : Unit) => [(0, .pointer (some ⟨bw, 0, none⟩)), (2, .int .i64 (d : Int)), (4, .pointer (some ⟨b4, 0, none⟩)), (6, str (if s.k = 4 then [119, 104, 105, 108, 101, 32, 40] else [105, 102, 32, 40]))]) (fun _ => [.blk b4 (.cells (smL s oe ob ol ce cb cl).toArray 70 (0, 0)), wrR (bw :: v.ownBlock.toList) w0.heap.size 5 n0 47 bw v F]) (fun _ _ => True) ?_ ?_
 ·
  refine vc_seq (vc_region ?_)
  refine vc_y rfl rfl (y_fa0 rfl underlying70 rfl rfl sizeOf68 rfl) ?_
  refine vc_y rfl rfl ((by exact y_ld st 0 rfl isAgg68 rfl rfl)) ?_
  refine vc_y rfl rfl (y_eqi rfl rfl) ?_
  refine vc_end (vq_then (vc_keep [(0, _), (2, _), (4, _), (6, _), (9, _)] ⟨rfl, rfl, rfl, rfl, rfl, trivial⟩ ?_))
  refine vc_ifs rfl ?_ ?_
  ·
   intro hc9
   try simp only [dn] at hc9
   refine vc_region ?_
   refine vc_y rfl rfl (y_as rfl) ?_
   refine vc_end ?_
   refine vq_meet () ⟨rfl, rfl, rfl, by simp only [Sx.put, find, Nat.beq]; first | rw [if_pos (by assumption)] | rw [if_neg (by assumption)], trivial⟩ st ?_
   ·
    trivial
  ·
   intro hc9
   try simp only [dn] at hc9
   refine vc_code_skip ?_
   refine vq_meet () ⟨rfl, rfl, rfl, by simp only [Sx.put, find, Nat.beq]; first | rw [if_pos (by assumption)] | rw [if_neg (by assumption)], trivial⟩ st ?_
   ·
    trivial
 ·
  clear st
  rintro ⟨⟩ w - st
  refine vc_seq (vc_region ?_)
  iterate 3 refine vc_y rfl rfl (y_mv rfl) ?_
  refine vc_y rfl rfl ((by exact y_faz (k := 3) rfl underlying70 rfl rfl sizeOf61 rfl)) ?_
  refine vc_y rfl rfl ((by exact y_ld st 0 rfl isAgg61 rfl rfl)) ?_
  refine vc_e (e_call [_] rfl rfl call85 rfl (first_any s.e x hx 0 hRx hkx _ _ _ (hse.kept (hsame st.chg)) (Nat.le_trans hn0 st.chg.size) h0 (hsg.kept' st.chg (hW.notin h0)) hlx) ?_)
  rintro _ w ⟨r, rfl, hT, cw⟩
  replace st := st.call0 cw
  have hTl := hT.2.2.1
  simp only [List.length_nil, Nat.zero_add] at hTl
  refine vc_e (e_bsn (l := [(if s.k = 4 then [119, 104, 105, 108, 101, 32, 40] else [105, 102, 32, 40]), r, [41, 32, 123]].map str) (E := 9) st [(0, _), (1, _), (2, _)] rfl rfl rfl (fun w => by simp [Instr.buildSlice, run_underlying underlying36, sizeOf9, zeroValue9, Instr.fill, newRow, newObj, Sem.run, go_sem]) ?_)
  intro b16 w hb16 st
  refine vc_e (e_call [_, _, _] rfl rfl call20 rfl (line_any repeat_any bw _ _ d (by omega) [(if s.k = 4 then [119, 104, 105, 108, 101, 32, 40] else [105, 102, 32, 40]), r, [41, 32, 123]] (by simp) (by simp; split <;> simp <;> omega) b16 _ _ (st.wrGet (i := 2) rfl) (Nat.le_trans hn0 st.chg.size) (fun j x hx => cell_nth (st.res (i := 0) rfl) (strs_nth hx)) (fun hk => apart_nth st.nodup (i := 0) (j := 2) (by decide) rfl rfl _ (.head _) hk)) ?_)
  rintro _ w ⟨rfl, hp⟩
  obtain ⟨v9, st⟩ := st.wr (i := 2) rfl hp
  dsimp only [setNth] at st
  refine vc_end (vq_then (vc_keep [(0, _), (2, _), (4, _)] ⟨rfl, rfl, rfl, trivial⟩ (vc_seq (vc_region ?_))))
  refine vc_y rfl rfl (y_mv rfl) ?_
  refine vc_y rfl rfl ((by exact y_faz (k := 4) rfl underlying70 rfl rfl sizeOf40 rfl)) ?_
  refine vc_y rfl rfl ((by exact y_ld st 1 rfl isAgg40 rfl rfl)) ?_
  refine vc_y rfl rfl (y_mv rfl) ?_
  refine vc_y rfl rfl (y_add rfl rfl (by omega : _ = ((d + 1 : Nat) : Int)) (by omega) (by omega)) ?_
  refine vc_e (e_call [_, _, _] rfl rfl call21 rfl (hrec _ (.inl rfl) bw _ _ _ _ _ (hsb.kept (hsame st.chg)) (st.wrGet (i := 2) rfl) (Nat.le_trans hn0 st.chg.size) (hsg.kept' st.chg (hW.notin h0)) hd64) ?_)
  rintro _ w ⟨rfl, hp⟩
  obtain ⟨v9, st⟩ := st.wr (i := 2) rfl hp
  dsimp only [setNth] at st
  refine vc_end (vq_then (vc_keep [(0, _), (2, _), (4, _)] ⟨rfl, rfl, rfl, trivial⟩ (vc_seq (vc_seq (vc_region ?_)))))
  refine vc_y rfl rfl ((by exact y_faz (k := 5) rfl underlying70 rfl rfl sizeOf40 rfl)) ?_
  refine vc_y rfl rfl ((by exact y_ld st 1 rfl isAgg40 rfl rfl)) ?_
  refine vc_y rfl rfl (y_lensl rfl underlying40) ?_
  refine vc_y rfl rfl (y_gtr rfl rfl) ?_
  refine vc_end (vq_then (vc_keep [(0, _), (2, _), (4, _), (27, _)] ⟨rfl, rfl, rfl, rfl, trivial⟩ ?_))
  refine vc_ifs rfl ?_ ?_
  ·
   intro hc27
   try simp only [dn] at hc27
   refine vc_seq (vc_region ?_)
   iterate 2 refine vc_y rfl rfl (y_mv rfl) ?_
   refine vc_e (e_bsn (l := [[125, 32, 101, 108, 115, 101, 32, 123]].map str) (E := 9) st [(0, _)] rfl rfl rfl (fun w => by simp [Instr.buildSlice, run_underlying underlying36, sizeOf9, zeroValue9, Instr.fill, newRow, newObj, Sem.run, go_sem]) ?_)
   intro b30 w hb30 st
   refine vc_e (e_call [_, _, _] rfl rfl call20 rfl (line_any repeat_any bw _ _ d (by omega) [[125, 32, 101, 108, 115, 101, 32, 123]] (by simp) (by simp) b30 _ _ (st.wrGet (i := 3) rfl) (Nat.le_trans hn0 st.chg.size) (fun j x hx => cell_nth (st.res (i := 0) rfl) (strs_nth hx)) (fun hk => apart_nth st.nodup (i := 0) (j := 3) (by decide) rfl rfl _ (.head _) hk)) ?_)
   rintro _ w ⟨rfl, hp⟩
   obtain ⟨v9, st⟩ := st.wr (i := 3) rfl hp
   dsimp only [setNth] at st
   refine vc_end (vq_then (vc_keep [(0, _), (2, _), (4, _)] ⟨rfl, rfl, rfl, trivial⟩ (vc_region ?_)))
   refine vc_y rfl rfl (y_mv rfl) ?_
   refine vc_y rfl rfl ((by exact y_faz (k := 5) rfl underlying70 rfl rfl sizeOf40 rfl)) ?_
   refine vc_y rfl rfl ((by exact y_ld st 2 rfl isAgg40 rfl rfl)) ?_
   refine vc_y rfl rfl (y_mv rfl) ?_
   refine vc_y rfl rfl (y_add rfl rfl (by omega : _ = ((d + 1 : Nat) : Int)) (by omega) (by omega)) ?_
   refine vc_e (e_call [_, _, _] rfl rfl call21 rfl (hrec _ (.inr rfl) bw _ _ _ _ _ (hsl.kept (hsame st.chg)) (st.wrGet (i := 3) rfl) (Nat.le_trans hn0 st.chg.size) (hsg.kept' st.chg (hW.notin h0)) hd64) ?_)
   rintro _ w ⟨rfl, hp⟩
   obtain ⟨v9, st⟩ := st.wr (i := 3) rfl hp
   dsimp only [setNth] at st
   refine vc_end (vq_then (vc_keep [(0, _), (2, _)] ⟨rfl, rfl, trivial⟩ (vc_region ?_)))
   iterate 2 refine vc_y rfl rfl (y_mv rfl) ?_
   refine vc_e (e_bsn (l := [[125]].map str) (E := 9) st [(0, _)] rfl rfl rfl (fun w => by simp [Instr.buildSlice, run_underlying underlying36, sizeOf9, zeroValue9, Instr.fill, newRow, newObj, Sem.run, go_sem]) ?_)
   intro b40 w hb40 st
   refine vc_e (e_call [_, _, _] rfl rfl call20 rfl (line_any repeat_any bw _ _ d (by omega) [[125]] (by simp) (by simp) b40 _ _ (st.wrGet (i := 4) rfl) (Nat.le_trans hn0 st.chg.size) (fun j x hx => cell_nth (st.res (i := 0) rfl) (strs_nth hx)) (fun hk => apart_nth st.nodup (i := 0) (j := 4) (by decide) rfl rfl _ (.head _) hk)) ?_)
   rintro _ w ⟨rfl, hp⟩
   obtain ⟨v9, st⟩ := st.wr (i := 4) rfl hp
   dsimp only [setNth] at st
   refine vc_end ?_
   refine vq_ret0 (.inr rfl) results53 ?_
   refine ⟨_, rfl, ?_⟩
   refine ⟨rfl, WrP.swap (G' := mar d ++ (if s.k = 4 then [119, 104, 105, 108, 101, 32, 40] else [105, 102, 32, 40]) ++ r ++ ([41, 32, 123, 10] ++ txtSs s.body (d + 1) ++ (mar d ++ [125, 32, 101, 108, 115, 101, 32, 123, 10] ++ txtSs s.els (d + 1)) ++ mar d ++ [125, 10])) ((st.wrDone (i := 4) rfl).eq (by simp [List.append_assoc])) ?_⟩
   rw [txtS_cond hk, if_pos (c := 0 < s.els.length) (by omega)]
   unfold hdS
   rw [if_neg (c := s.k = 1) (by omega), if_neg (c := s.k = 2) (by omega), if_neg (c := s.k = 6) (by omega), if_neg (c := s.k = 7) (by omega), if_neg (c := s.k = 5) (by omega), hxt]
   have h := hT.same (mar d ++ (if s.k = 4 then [119, 104, 105, 108, 101, 32, 40] else [105, 102, 32, 40])) ([41, 32, 123, 10] ++ txtSs s.body (d + 1) ++ (mar d ++ [125, 32, 101, 108, 115, 101, 32, 123, 10] ++ txtSs s.els (d + 1)) ++ mar d ++ [125, 10])
   simpa only [List.append_assoc, List.nil_append] using h
  ·
   intro hc27
   try simp only [dn] at hc27
   refine vc_code_skip (vq_then (vc_keep [(0, _), (2, _)] ⟨rfl, rfl, trivial⟩ (vc_region ?_)))
   iterate 2 refine vc_y rfl rfl (y_mv rfl) ?_
   refine vc_e (e_bsn (l := [[125]].map str) (E := 9) st [(0, _)] rfl rfl rfl (fun w => by simp [Instr.buildSlice, run_underlying underlying36, sizeOf9, zeroValue9, Instr.fill, newRow, newObj, Sem.run, go_sem]) ?_)
   intro b40 w hb40 st
   refine vc_e (e_call [_, _, _] rfl rfl call20 rfl (line_any repeat_any bw _ _ d (by omega) [[125]] (by simp) (by simp) b40 _ _ (st.wrGet (i := 3) rfl) (Nat.le_trans hn0 st.chg.size) (fun j x hx => cell_nth (st.res (i := 0) rfl) (strs_nth hx)) (fun hk => apart_nth st.nodup (i := 0) (j := 3) (by decide) rfl rfl _ (.head _) hk)) ?_)
   rintro _ w ⟨rfl, hp⟩
   obtain ⟨v9, st⟩ := st.wr (i := 3) rfl hp
   dsimp only [setNth] at st
   refine vc_end ?_
   refine vq_ret0 (.inr rfl) results53 ?_
   refine ⟨_, rfl, ?_⟩
   refine ⟨rfl, WrP.swap (G' := mar d ++ (if s.k = 4 then [119, 104, 105, 108, 101, 32, 40] else [105, 102, 32, 40]) ++ r ++ ([41, 32, 123, 10] ++ txtSs s.body (d + 1) ++ mar d ++ [125, 10])) ((st.wrDone (i := 3) rfl).eq (by simp [List.append_assoc])) ?_⟩
   rw [txtS_cond hk, if_neg (c := 0 < s.els.length) (by omega)]
   unfold hdS
   rw [if_neg (c := s.k = 1) (by omega), if_neg (c := s.k = 2) (by omega), if_neg (c := s.k = 6) (by omega), if_neg (c := s.k = 7) (by omega), if_neg (c := s.k = 5) (by omega), hxt]
   have h := hT.same (mar d ++ (if s.k = 4 then [119, 104, 105, 108, 101, 32, 40] else [105, 102, 32, 40])) ([41, 32, 123, 10] ++ txtSs s.body (d + 1) ++ mar d ++ [125, 10])
   simpa only [List.append_assoc, List.nil_append] using h

end
end Go.Proofs.YtnmhlpnapgojjaaDoor


namespace Go.Proofs.YtnmhlpnapgojjaaDoor
open Go.RowKit Sx LexS _root_.Go.Proofs.Tryd
set_option linter.unusedVariables false
set_option linter.unusedSimpArgs false
theorem txX_le {s : Sm} {d : Nat} (h : rightS s d = true) : (txX s.e).length ≤ (txtS s d).length := by
 obtain ⟨⟨r1, r1b⟩, r2, r3, r4, r5, r6, r7, r8, r9⟩ := rightS_iff.1 h
 rcases (by omega : s.k = 1 ∨ s.k = 2 ∨ s.k = 3 ∨ s.k = 4 ∨ s.k = 5 ∨ s.k = 6 ∨ s.k = 7) with h | h | h | h | h | h | h
 ·
  rw [txtS_flat (by omega)]; unfold hdS; rw [h]; simp; omega
 ·
  rw [txtS_flat (by omega)]; unfold hdS; rw [h]; simp; omega
 ·
  rw [txtS_cond (by omega)]; unfold hdS; rw [h]; simp; omega
 ·
  rw [txtS_cond (by omega)]; unfold hdS; rw [h]; simp; omega
 ·
  have h0 : s.e.length = 0 := by rw [h] at r4; simpa [rightX, hasE] using r4
  rw [List.eq_nil_of_length_eq_zero h0]; simp [txX]
 ·
  rw [txtS_flat (by omega)]; unfold hdS; rw [h]; simp; omega
 ·
  have h0 : s.e.length = 0 := by rw [h] at r4; simpa [rightX, hasE] using r4
  rw [List.eq_nil_of_length_eq_zero h0]; simp [txX]
theorem within_le {s : Sm} {d : Nat} {l : List Sm} (h : rightS s d = true) (hl : l = s.body ∨ l = s.els) : (txtSs l (d + 1)).length ≤ (txtS s d).length := by
 obtain ⟨⟨r1, r1b⟩, r2, r3, r4, r5, r6, r7, r8, r9⟩ := rightS_iff.1 h
 by_cases h0 : l.length = 0
 ·
  rw [List.eq_nil_of_length_eq_zero h0]; simp [txtSs]
 rcases hl with rfl | rfl
 ·
  have hB : hasB s.k = true := r5.resolve_right h0
  unfold hasB at hB
  simp only [decide_eq_true_eq] at hB
  rcases (by omega : s.k = 5 ∨ (s.k = 3 ∨ s.k = 4)) with h | h
  ·
   rw [txtS_lock h]; simp; omega
  ·
   rw [txtS_cond h]; simp; omega
 ·
  have hk : s.k = 3 := r6.resolve_right h0
  rw [txtS_cond (.inl hk), if_pos (by omega)]; simp; omega
theorem txtS_le {ss : List Sm} {d j : Nat} {s : Sm} (h : ss[j]? = some s) : (txtS s d).length ≤ (txtSs ss d).length := by
 rw [txtSs_split ss d (j + 1), txtSs_succ h]; simp; omega
def fnV (f bw : Nat) : Value := .func (.func f) #[.pointer (some ⟨bw, 0, none⟩)] #[]
def funL (bw : Nat) : List Value := [.nilFunc, fnV 51 bw, fnV 52 bw, fnV 53 bw, fnV 53 bw, fnV 54 bw, fnV 55 bw, fnV 56 bw]
def fnOf (m : Nat) : Nat := [56, 51, 52, 53, 53, 54, 55, 56].getD m 56
theorem fnOf_at (m bw : Nat) (h1 : 1 ≤ m) (h7 : m ≤ 7) : nth (funL bw) (m * 1) = some (fnV (fnOf m) bw) := by
 rcases (by omega : m = 1 ∨ m = 2 ∨ m = 3 ∨ m = 4 ∨ m = 5 ∨ m = 6 ∨ m = 7) with rfl | rfl | rfl | rfl | rfl | rfl | rfl <;> rfl
theorem fun_at {w : World} {b E bw m : Nat} (h : w.heap[b]? = some (.cells (funL bw).toArray E (0, 0))) (h1 : 1 ≤ m) (h7 : m ≤ 7) : w.cell? ⟨b, 0 + m * 1, none⟩ = some (fnV (fnOf m) bw) := by
 rw [Nat.zero_add]
 exact cell_nth h (fnOf_at m bw h1 h7)
theorem fnOf_call (m : Nat) (h1 : 1 ≤ m) (h7 : m ≤ 7) : ∀ (xs : Array Value) w, (callFunc (fnOf m) xs).run Tryd.prog w = .ok (.enter (fnOf m) xs) w := by
 rcases (by omega : m = 1 ∨ m = 2 ∨ m = 3 ∨ m = 4 ∨ m = 5 ∨ m = 6 ∨ m = 7) with rfl | rfl | rfl | rfl | rfl | rfl | rfl
 ·
  exact call51
 ·
  exact call52
 ·
  exact call53
 ·
  exact call53
 ·
  exact call54
 ·
  exact call55
 ·
  exact call56
section
variable {n0 : Nat}

theorem wstmt_any (s : Sm) (m : Nat) (hm : s.k = (m : Int)) (d : Nat) (hd : d ≤ 64) (hR : rightS s d = true) (hok : OkS s) (oe ob ol : Option Addr) (ce cb cl : Nat) (bw : Nat) (v : Value) (F : List UInt8) (w : World) (hse : ExRow w (· < n0) oe s.e) (hsb : SmRow w (· < n0) ob s.body) (hsl : SmRow w (· < n0) ol s.els) (hW : Wr 5 n0 47 bw v F w) (hn0 : n0 ≤ w.heap.size) (h0 : 0 < n0) (hsg : Sig w) (hlx : (txX s.e).length ≤ 1099511627776) (hrec : ∀ (l : List Sm), (l = s.body ∨ l = s.els) → ∀ (bw : Nat) (v : Value) (F : List UInt8) (oa : Option Addr) (cap : Nat) (w : World), SmRow w (· < n0) oa l → Wr 5 n0 47 bw v F w → n0 ≤ w.heap.size → Sig w → d < 64 →
      Ret Tryd.prog 21 [.pointer (some ⟨bw, 0, none⟩), .slice oa l.length cap, .int .i64 ((d + 1 : Nat) : Int)] w fun r w' => r = .tuple #[] ∧ WrP 5 n0 47 bw v (F ++ txtSs l (d + 1)) w w') :
  Ret Tryd.prog (fnOf m) ([.pointer (some ⟨bw, 0, none⟩)] ++ [.agg (smL s oe ob ol ce cb cl).toArray, .int .i64 (d : Int)] ++ []) w fun r w' => r = .tuple #[] ∧ WrP 5 n0 47 bw v (F ++ txtS s d) w w' := by
 obtain ⟨⟨r1, r1b⟩, -⟩ := rightS_iff.1 hR
 rcases (by omega : m = 1 ∨ m = 2 ∨ m = 3 ∨ m = 4 ∨ m = 5 ∨ m = 6 ∨ m = 7) with rfl | rfl | rfl | rfl | rfl | rfl | rfl
 ·
  exact wassign_any s hm d hd hR hok oe ob ol ce cb cl bw v F w hse hW hn0 h0 hsg hlx
 ·
  exact wswap_any s hm d hd hR hok oe ob ol ce cb cl bw v F w hse hW hn0 h0 hsg hlx
 ·
  exact wcond_any s (.inl hm) d hd hR hok oe ob ol ce cb cl bw v F w hse hsb hsl hW hn0 h0 hsg hlx hrec
 ·
  exact wcond_any s (.inr hm) d hd hR hok oe ob ol ce cb cl bw v F w hse hsb hsl hW hn0 h0 hsg hlx hrec
 ·
  exact wlock_any s hm d hd hR hok oe ob ol ce cb cl bw v F w hse hsb hsl hW hn0 h0 hsg hlx hrec
 ·
  exact wprintS_any s hm d hd hR hok oe ob ol ce cb cl bw v F w hse hW hn0 h0 hsg hlx
 ·
  exact wskip_any s hm d hd oe ob ol ce cb cl bw v F w hW hn0

set_option maxHeartbeats 1000000 in
theorem wblock_any : ∀ (n : Nat) (ss : List Sm), szo ss = n → ∀ (d : Nat), d ≤ 64 → rightSs ss d = true → OkSs ss → (txtSs ss d).length ≤ 1099511627776 → ∀ (bw : Nat) (v : Value) (F : List UInt8) (oa : Option Addr) (cap : Nat) (w : World), SmRow w (· < n0) oa ss → Wr 5 n0 47 bw v F w → n0 ≤ w.heap.size → 0 < n0 → Sig w →
    Ret Tryd.prog 21 [.pointer (some ⟨bw, 0, none⟩), .slice oa ss.length cap, .int .i64 (d : Int)] w fun r w' => r = .tuple #[] ∧ WrP 5 n0 47 bw v (F ++ txtSs ss d) w w' := by
 intro n
 refine Nat.strongRecOn n fun n ih => ?_
 intro ss hn d hd hR hok hlen bw v F oa cap w hr hW hn0 h0 hsg
 subst hn
 have hssl := hok.1
 refine ret_of [_, _, _] func21 rfl ntmps21 rfl ?_
 have st := St.init w []
 clear st
 obtain ⟨w0, rfl⟩ : ∃ w0, w0 = w := ⟨_, rfl⟩
 have st := St.wrInit hW
 have hsame : ∀ {w1 : World}, Chg (bw :: v.ownBlock.toList) w0 w1 → Same (· < n0) w0 w1 := fun c => hW.same c
 refine vc_seq (vc_region ?_)
 refine vc_y rfl rfl (y_mv rfl) ?_
 refine vc_y rfl rfl (y_mf [_] [] rfl rfl) ?_
 refine vc_y rfl rfl (y_mv rfl) ?_
 refine vc_y rfl rfl (y_mf [_] [] rfl rfl) ?_
 refine vc_y rfl rfl (y_mv rfl) ?_
 refine vc_y rfl rfl (y_mf [_] [] rfl rfl) ?_
 refine vc_y rfl rfl (y_mv rfl) ?_
 refine vc_y rfl rfl (y_mf [_] [] rfl rfl) ?_
 refine vc_y rfl rfl (y_mv rfl) ?_
 refine vc_y rfl rfl (y_mf [_] [] rfl rfl) ?_
 refine vc_y rfl rfl (y_mv rfl) ?_
 refine vc_y rfl rfl (y_mf [_] [] rfl rfl) ?_
 refine vc_y rfl rfl (y_mv rfl) ?_
 refine vc_y rfl rfl (y_mf [_] [] rfl rfl) ?_
 refine vc_y rfl rfl (y_bld (.agg #[_, _, _, _, _, _, _, _]) [(1, _), (2, _), (3, _), (4, _), (5, _), (6, _), (7, _)] rfl (fun w => by simp [Instr.build, go_sem] <;> repeat' constructor)) ?_
 refine vc_e (e_al (l := [_, _, _, _, _, _, _, _]) st rfl rfl zeroValue88 rfl ?_)
 intro b6 w hb6 st
 refine vc_e (e_sts (vs := [_, _, _, _, _, _, _, _]) st 0 rfl rfl rfl rfl rfl sizeOf88 rfl rfl (by first | (right; assumption) | (left; simp)) ?_)
 intro w st; dsimp only [setNth, wr] at st
 refine vc_end (vq_then (vc_keep [(0, _), (1, _), (2, _), (6, _)] ⟨rfl, rfl, rfl, rfl, trivial⟩ (vc_seq (vc_region ?_))))
 refine vc_y rfl rfl (y_mv rfl) ?_
 refine vc_y rfl rfl (y_lensl rfl underlying40) ?_
 refine vc_y rfl rfl (y_mv rfl) ?_
 refine vc_end (vq_then (vc_keep [(0, _), (2, _), (6, _), (24, _), (25, _), (26, _)] ⟨rfl, rfl, rfl, rfl, rfl, rfl, trivial⟩ (vc_block ?_)))
 refine vc_loop (w0 := w0) (M := (bw :: v.ownBlock.toList)) (fun (x : Nat × Value) => [(0, .pointer (some ⟨bw, 0, none⟩)), (2, .int .i64 (d : Int)), (6, .pointer (some ⟨b6, 0, none⟩)), (24, .slice oa ss.length cap), (25, .int .i64 (ss.length : Int)), (26, .int .i64 (x.1 : Int))]) (fun x => [.blk b6 (.cells (funL bw).toArray 88 (0, 0)), wrR (bw :: v.ownBlock.toList) w0.heap.size 5 n0 47 bw x.2 (F ++ txtSs (ss.take x.1) d)]) (fun x _ => x.1 ≤ ss.length) (fun x => ss.length - x.1) (0, v) ⟨rfl, rfl, rfl, rfl, rfl, rfl, trivial⟩ (by simpa [txtSs, funL, fnV] using st) (by simp) ?_
 clear st
 rintro ⟨j, v1⟩ w hj st
 dsimp only at *
 refine vc_seq (vc_region ?_)
 refine vc_y rfl rfl (y_lss rfl rfl) ?_
 refine vc_end (vq_then (vc_keep [(0, _), (2, _), (6, _), (24, _), (25, _), (26, _), (27, _)] ⟨rfl, rfl, rfl, rfl, rfl, rfl, rfl, trivial⟩ (vc_seq ?_)))
 refine vc_ifs rfl ?_ ?_
 ·
  intro hc27
  try simp only [dn] at hc27
  obtain ⟨s, hsj⟩ : ∃ s, ss[j]? = some s := ⟨_, List.getElem?_eq_getElem (by omega)⟩
  obtain ⟨gb, go, rfl, hgS, hgl, hg⟩ := SmRow.at hr (by omega)
  obtain ⟨oe, ob, ol, ce, cb, cl, hsV, hse, hsb, hsl, hc⟩ := hg j s hsj
  have hks := hok.2 j s hsj
  have hz := mem_size hsj
  have hB : szo s.body < szo ss := by have := (sm_kids s).1; omega
  have hL : szo s.els < szo ss := by have := (sm_kids s).2; omega
  have hRs := rightSs_get hR hsj
  have hRi := rightS_iff.1 hRs
  have hk17 := hRi.1
  have hts := txtS_le (d := d) hsj
  have htx := txX_le hRs
  obtain ⟨m, hm⟩ : ∃ m : Nat, s.k = (m : Int) := ⟨s.k.toNat, by omega⟩
  refine vc_code_skip (vq_then (vc_keep [(0, _), (2, _), (6, _), (24, _), (25, _), (26, _)] ⟨rfl, rfl, rfl, rfl, rfl, rfl, trivial⟩ (vc_seq (vc_block (vc_seq (vc_region ?_))))))
  refine vc_y rfl rfl ((by exact y_ia (k := j) rfl rfl underlying40 sizeOf70 rfl (by omega))) ?_
  refine vc_y rfl rfl ((by exact y_ldca (smL s oe ob ol ce cb cl) rfl isAgg70 sizeOf70 rfl (fun i v hi => st.chg.cell (hc i v hi) (hW.notin hgS)))) ?_
  refine vc_e (e_al (l := [_, _, _, _, _, _, _]) st rfl rfl zeroValue70 rfl ?_)
  intro b8 w hb8 st
  refine vc_e (e_sts (vs := [_, _, _, _, _, _, _]) st 0 rfl rfl rfl rfl rfl sizeOf70 rfl rfl (by first | (right; assumption) | (left; simp)) ?_)
  intro w st; dsimp only [setNth, wr] at st
  refine vc_end (vq_then (vc_keep [(0, _), (2, _), (6, _), (8, _), (24, _), (25, _), (26, _)] ⟨rfl, rfl, rfl, rfl, rfl, rfl, rfl, trivial⟩ (vc_seq (vc_seq (vc_region ?_)))))
  obtain ⟨lq, many, hb, ho, hws, hx1, hx2⟩ := st.wrGet (i := 2) rfl
  refine vc_y rfl rfl (y_mv rfl) ?_
  refine vc_y rfl rfl (y_nck rfl) ?_
  refine vc_y rfl rfl ((by exact y_faz (k := 1) rfl underlying47 rfl rfl sizeOf4 rfl)) ?_
  refine vc_y rfl rfl ((by exact y_ldc rfl isAgg4 (ptr_cell hb))) ?_
  refine vc_end (vq_then (vc_keep [(0, _), (2, _), (6, _), (8, _), (24, _), (25, _), (26, _), (33, _)] ⟨rfl, rfl, rfl, rfl, rfl, rfl, rfl, rfl, trivial⟩ ?_))
  refine vc_ifs rfl ?_ ?_
  ·
   intro hc33
   try simp only [dn] at hc33
   refine vc_ret (vq_then_ret (vq_block_ret (vq_then_ret (vq_then_ret (vq_block_ret ?_)))))
   refine vq_ret0 (.inl rfl) results21 ?_
   refine ⟨_, rfl, ?_⟩
   refine ⟨rfl, ?_⟩
   have hm : many = true := by assumption
   subst hm
   rw [txtSs_split ss d j, ← List.append_assoc]
   exact (st.wrDone (i := 2) rfl).over hb
  ·
   intro hc33
   try simp only [dn] at hc33
   refine vc_code_skip (vq_then (vc_keep [(0, _), (2, _), (6, _), (8, _), (24, _), (25, _), (26, _)] ⟨rfl, rfl, rfl, rfl, rfl, rfl, rfl, trivial⟩ ?_))
   refine vc_draw Tryd.mixed [(0, true), (1, true), (2, true), (3, true), (4, true), (5, true), (6, false)] (fun w => St _ _ [.blk b8 (.cells (smL s oe ob ol ce cb cl).toArray 70 (0, 0)), .blk b6 (.cells (funL bw).toArray 88 (0, 0))] w) (by exact st.drop (by repeat (first | exact sl0 | apply sl1 | apply sl2))) (by kernel_rfl) (by repeat (first | exact okQ_body | refine okQ_then ?_ | refine okQ_block ?_)) rfl (by kernel_rfl) ?_
   intro w cd; replace st := st.call0 cd; clear cd
   have hS : St _ _ [.blk b8 (.cells (smL s oe ob ol ce cb cl).toArray 70 (0, 0)), .blk b6 (.cells (funL bw).toArray 88 (0, 0))] w := (by exact st.drop (by repeat (first | exact sl0 | apply sl1 | apply sl2)))
   refine vp_take rfl rfl rfl hS (fun w st => y_fa0 rfl underlying70 rfl rfl sizeOf68 rfl) ?_
   refine vp_take rfl rfl rfl hS (fun w st => (by exact y_ld st 0 rfl isAgg68 rfl rfl)) ?_
   refine vp_take rfl rfl rfl hS (fun w st => y_iaa (k := m) rfl rfl underlying88 sizeOf87 hm (by omega)) ?_
   refine vp_take rfl rfl rfl hS (fun w st => (by exact y_ldc rfl isAgg87 (fun_at (st.res (i := 1) rfl) (by omega) (by omega)))) ?_
   refine vp_take rfl rfl rfl hS (fun w st => (by exact y_lda (vs := [_, _, _, _, _, _, _]) st 0 rfl isAgg70 sizeOf70 rfl rfl)) ?_
   refine vp_take rfl rfl rfl hS (fun w st => y_mv rfl) ?_
   refine vp_do rfl (e_callv [_, _] rfl rfl rfl (fnOf_call m (by omega) (by omega)) rfl (wstmt_any s m hm d hd hRs hks oe ob ol ce cb cl bw _ _ _ (hse.kept (hsame st.chg)) (hsb.kept (hsame st.chg)) (hsl.kept (hsame st.chg)) (st.wrGet (i := 2) rfl) (Nat.le_trans hn0 st.chg.size) h0 (hsg.kept' st.chg (hW.notin h0)) (by omega) (fun l hl bw v F oa cap w hr hW hn hsg hd => ih (szo l) (by rcases hl with h | h <;> subst h <;> omega) l rfl (d + 1) (by omega) (by rcases hl with h | h <;> subst h; exact hRi.2.2.2.2.2.2.2.1; exact hRi.2.2.2.2.2.2.2.2) (by rcases hl with h | h <;> subst h; exact hks.body; exact hks.els) (by have := within_le hRs hl; omega) bw v F oa cap w hr hW hn h0 hsg)) ?_)
   rintro _ w ⟨rfl, hp⟩
   obtain ⟨v9, st⟩ := st.wr (i := 2) rfl hp
   dsimp only [setNth] at st
   refine vp_next (by exact st.drop (by repeat (first | exact sl0 | apply sl1 | apply sl2))) ?_; intro hS
   refine vp_end (vq_block (vq_then (vc_keep [(0, _), (2, _), (6, _), (24, _), (25, _), (26, _)] ⟨rfl, rfl, rfl, rfl, rfl, rfl, trivial⟩ (vc_region ?_))))
   refine vc_y rfl rfl (y_add rfl rfl (by omega : _ = ((j + 1 : Nat) : Int)) (by omega) (by omega)) ?_
   refine vc_y rfl rfl (y_mv rfl) ?_
   refine vc_end ?_
   refine vq_again (j + 1, v9)  ⟨rfl, rfl, rfl, rfl, rfl, rfl, trivial⟩ (by rw [txtSs_succ hsj, ← List.append_assoc]; exact st.drop (by repeat (first | exact sl0 | apply sl1 | apply sl2))) ?_ ?_
   ·
    dsimp only; omega
   ·
    dsimp only; omega
 ·
  intro hc27
  try simp only [dn] at hc27
  refine vc_exit (vq_then_exit (vq_then_exit (vq_block_exit ?_)))
  refine vq_ret0 (.inr rfl) results21 ?_
  refine ⟨_, rfl, ?_⟩
  refine ⟨rfl, ?_⟩
  obtain rfl : j = ss.length := by omega
  rw [List.take_length] at st
  exact st.wrDone (i := 1) rfl

end
end Go.Proofs.YtnmhlpnapgojjaaDoor


namespace Go.Proofs.YtnmhlpnapgojjaaDoor
open Go.RowKit Sx LexS _root_.Go.Proofs.Tryd
set_option linter.unusedVariables false
set_option linter.unusedSimpArgs false
theorem Sig.pos {w : World} (h : Sig w) : 0 < w.heap.size := World.block_lt_of_cell? w _ (h 0 (by omega)).1
theorem thT_le {p : Pg} {j : Nat} {t : Th} (h : p.threads[j]? = some t) : (txtSs t.body 1).length ≤ (pgT p).length := by
 have h1 := pgT_le p (j + 1)
 rw [thsT_succ h] at h1
 unfold thT at h1
 simp at h1
 omega
set_option maxHeartbeats 2000000 in
theorem wprintP_any (p : Pg) (os ol ot : Option Addr) (cs cl ct : Nat) (w : World) (hS : DcRow w (· < w.heap.size) os p.shared) (hL : DcRow w (· < w.heap.size) ol p.locks) (hT : ThRow w (· < w.heap.size) ot p.threads) (hok : OkP p) (hsg : Sig w) (hlen : pgOk p = true → (pgT p).length ≤ 1099511627776) :
    Ret Tryd.prog 7 [.agg (pgL p os ol ot cs cl ct).toArray] w fun v w' => v = .tuple #[str (pgRes p).1, .int .i64 ((pgRes p).2 : Int)] ∧ Chg [] w w' := by
 refine ret_of [_] func7 rfl ntmps7 rfl ?_
 have st := St.init w []
 obtain ⟨w0, rfl⟩ : ∃ w0, w0 = w := ⟨_, rfl⟩
 have hn3 := hok.2.2.1
 have h0 := hsg.pos
 refine vc_seq (vc_region ?_)
 refine vc_e (e_bx (l := [_, _, _]) st rfl rfl rfl rfl ?_)
 intro b1 w hb1 st
 iterate 2 refine vc_y rfl rfl (y_as rfl) ?_
 refine vc_end (vq_then (vc_keep [(1, _)] ⟨rfl, trivial⟩ (vc_seq (vc_seq (vc_region ?_)))))
 refine vc_y rfl rfl ((by exact y_lda (vs := [_, _, _]) st 0 rfl isAgg25 sizeOf25 rfl rfl)) ?_
 refine vc_e (e_call [_] rfl rfl call18 rfl (right_any p _ _ _ _ _ _ _ (RowC.kept hS (Same.of_nil st.chg)) (RowC.kept hL (Same.of_nil st.chg)) (hT.kept (Same.of_nil st.chg)) hok (hsg.kept st.chg)) ?_)
 rintro _ w ⟨rfl, cw⟩
 replace st := st.call0 cw
 refine vc_y rfl rfl (y_not rfl) ?_
 refine vc_end (vq_then (vc_keep [(1, _), (9, _)] ⟨rfl, rfl, trivial⟩ ?_))
 refine vc_ifs rfl ?_ ?_
 ·
  intro hc9
  try simp only [dn] at hc9
  refine vc_seq (vc_region ?_)
  iterate 2 refine vc_y rfl rfl (y_as rfl) ?_
  refine vc_end (vq_then (vc_keep [(2, _), (3, _)] ⟨rfl, rfl, trivial⟩ (vc_ret (vq_then_ret ?_))))
  refine vq_ret2 st (.inl rfl) results7 (.tmp rfl) (.tmp rfl) ?_
  refine ⟨_, rfl, ?_⟩
  refine ⟨?_, st.chg⟩
  rw [pgRes_no (by assumption)]; rfl
 ·
  intro hc9
  try simp only [dn] at hc9
  refine vc_code_skip (vq_then (vc_keep [(1, _)] ⟨rfl, trivial⟩ (vc_seq (vc_region ?_))))
  refine vc_y rfl rfl (y_bld (.agg #[_, _]) [] rfl (fun w => by simp [Instr.build, go_sem] <;> repeat' constructor)) ?_
  refine vc_e (e_bx (l := [_, _]) st rfl rfl rfl rfl ?_)
  intro b11 w hb11 st
  refine vc_y rfl rfl (y_as rfl) ?_
  refine vc_end (vq_then (vc_keep [(1, _), (4, _)] ⟨rfl, rfl, trivial⟩ (vc_seq (vc_region ?_))))
  obtain ⟨bw, rfl⟩ : ∃ bw, bw = b11 := ⟨_, rfl⟩
  have hpo : pgOk p = true := by assumption
  replace hlen := hlen hpo
  obtain ⟨q1, q2, q3⟩ := pgOk_inv hpo
  replace st := st.wrNew (E := 5) (n0 := w0.heap.size) hb11 (Nat.le_refl _)
  refine vc_y rfl rfl (y_mv rfl) ?_
  refine vc_y rfl rfl (y_fa0 rfl underlying25 rfl rfl sizeOf22 rfl) ?_
  refine vc_y rfl rfl ((by exact y_ld st 1 rfl isAgg22 rfl rfl)) ?_
  refine vc_e (e_call [_, _, _, _] rfl rfl call19 rfl (wdecls_any p.shared true q1 hok.1 [115, 104, 97, 114, 101, 100] (by simp) 0 (by omega) _ _ bw _ _ _ (RowC.kept hS (Same.of_nil st.chg)) (st.wrGet (i := 0) rfl) st.chg.size) ?_)
  rintro _ w ⟨rfl, hp⟩
  obtain ⟨v9, st⟩ := st.wr (i := 0) rfl hp
  dsimp only [setNth] at st
  refine vc_end (vq_then (vc_keep [(1, _), (4, _)] ⟨rfl, rfl, trivial⟩ (vc_seq (vc_region ?_))))
  refine vc_y rfl rfl (y_mv rfl) ?_
  refine vc_y rfl rfl ((by exact y_faz (k := 1) rfl underlying25 rfl rfl sizeOf22 rfl)) ?_
  refine vc_y rfl rfl ((by exact y_ld st 1 rfl isAgg22 rfl rfl)) ?_
  refine vc_e (e_call [_, _, _, _] rfl rfl call19 rfl (wdecls_any p.locks false q2 hok.2.1 [108, 111, 99, 107] (by simp) 0 (by omega) _ _ bw _ _ _ (RowC.kept hL (Same.of_nil st.chg)) (st.wrGet (i := 0) rfl) st.chg.size) ?_)
  rintro _ w ⟨rfl, hp⟩
  obtain ⟨v9, st⟩ := st.wr (i := 0) rfl hp
  dsimp only [setNth] at st
  refine vc_end (vq_then (vc_keep [(1, _), (4, _)] ⟨rfl, rfl, trivial⟩ (vc_seq (vc_seq (vc_region ?_)))))
  refine vc_y rfl rfl ((by exact y_faz (k := 2) rfl underlying25 rfl rfl sizeOf23 rfl)) ?_
  refine vc_y rfl rfl ((by exact y_ld st 1 rfl isAgg23 rfl rfl)) ?_
  refine vc_y rfl rfl (y_lensl rfl underlying23) ?_
  refine vc_y rfl rfl (y_mv rfl) ?_
  refine vc_end (vq_then (vc_keep [(4, _), (21, _), (22, _), (23, _)] ⟨rfl, rfl, rfl, rfl, trivial⟩ (vc_block ?_)))
  refine vc_loop (w0 := w0) (M := []) (fun (x : Nat × Value) => [(4, .pointer (some ⟨bw, 0, none⟩)), (21, .slice ot p.threads.length ct), (22, .int .i64 (p.threads.length : Int)), (23, .int .i64 (x.1 : Int))]) (fun x => [wrR [] w0.heap.size 5 w0.heap.size 47 bw x.2 (pgH p ++ thsT (p.threads.take x.1))]) (fun x _ => x.1 ≤ p.threads.length) (fun x => p.threads.length - x.1) (0, v9) ⟨rfl, rfl, rfl, rfl, trivial⟩ (by simpa [thsT, pgH] using (st.drop (by repeat (first | exact sl0 | apply sl1 | apply sl2)) : St w0 [] [wrR [] w0.heap.size 5 w0.heap.size 47 bw v9 _] w)) (by simp) ?_
  clear st
  rintro ⟨j, v1⟩ w hj st
  dsimp only at *
  refine vc_seq (vc_region ?_)
  refine vc_y rfl rfl (y_lss rfl rfl) ?_
  refine vc_end (vq_then (vc_keep [(4, _), (21, _), (22, _), (23, _), (24, _)] ⟨rfl, rfl, rfl, rfl, rfl, trivial⟩ (vc_seq ?_)))
  refine vc_ifs rfl ?_ ?_
  ·
   intro hc24
   try simp only [dn] at hc24
   have stK := st
   obtain ⟨t, htj⟩ : ∃ t, p.threads[j]? = some t := ⟨_, List.getElem?_eq_getElem (by omega)⟩
   obtain ⟨gb, go, rfl, hgS, hgl, hg⟩ := ThRow.at hT (by omega)
   obtain ⟨tl, tb, cll, cbb, htl, htb, hc⟩ := hg j t htj
   have hkt := hok.2.2.2 j t htj
   obtain ⟨t1, t2, t3⟩ := q3 j t htj
   have hnl := isName_le t1
   have htle := thT_le htj
   have st := stK
   clear stK
   refine vc_code_skip (vq_then (vc_keep [(4, _), (21, _), (22, _), (23, _)] ⟨rfl, rfl, rfl, rfl, trivial⟩ (vc_seq (vc_block (vc_seq (vc_region ?_))))))
   refine vc_y rfl rfl ((by exact y_ia (k := j) rfl rfl underlying23 sizeOf42 rfl (by omega))) ?_
   refine vc_y rfl rfl ((by exact y_ldca (thL t tl tb cll cbb) rfl isAgg42 sizeOf42 rfl (fun i v hi => st.chg.cell (hc i v hi) (by simp)))) ?_
   refine vc_e (e_al (l := [_, _, _, _]) st rfl rfl zeroValue42 rfl ?_)
   intro b6 w hb6 st
   refine vc_e (e_sts (vs := [_, _, _, _]) st 0 rfl rfl rfl rfl rfl sizeOf42 rfl rfl (by first | (right; assumption) | (left; simp)) ?_)
   intro w st; dsimp only [setNth, wr] at st
   refine vc_end (vq_then (vc_keep [(4, _), (6, _), (21, _), (22, _), (23, _)] ⟨rfl, rfl, rfl, rfl, rfl, trivial⟩ (vc_seq (vc_region ?_))))
   refine vc_y rfl rfl (y_mv rfl) ?_
   refine vc_y rfl rfl (y_fa0 rfl underlying42 rfl rfl sizeOf9 rfl) ?_
   refine vc_y rfl rfl ((by exact y_ld st 0 rfl isAgg9 rfl rfl)) ?_
   refine vc_e (e_bsn (l := [[116, 104, 114, 101, 97, 100, 32], t.nm, [32, 123]].map str) (E := 9) st [(0, _), (1, _), (2, _)] rfl rfl rfl (fun w => by simp [Instr.buildSlice, run_underlying underlying36, sizeOf9, zeroValue9, Instr.fill, newRow, newObj, Sem.run, go_sem]) ?_)
   intro b30 w hb30 st
   refine vc_e (e_call [_, _, _] rfl rfl call20 rfl (line_any repeat_any bw _ _ 0 (by omega) [[116, 104, 114, 101, 97, 100, 32], t.nm, [32, 123]] (by simp) (by simp; try omega) b30 _ _ (st.wrGet (i := 2) rfl) st.chg.size (fun j x hx => cell_nth (st.res (i := 0) rfl) (strs_nth hx)) (fun hk => apart_nth st.nodup (i := 0) (j := 2) (by decide) rfl rfl _ (.head _) hk)) ?_)
   rintro _ w ⟨rfl, hp⟩
   obtain ⟨v9, st⟩ := st.wr (i := 2) rfl hp
   dsimp only [setNth] at st
   refine vc_end (vq_then (vc_keep [(4, _), (6, _), (21, _), (22, _), (23, _)] ⟨rfl, rfl, rfl, rfl, rfl, trivial⟩ (vc_seq (vc_region ?_))))
   refine vc_y rfl rfl (y_mv rfl) ?_
   refine vc_y rfl rfl ((by exact y_faz (k := 1) rfl underlying42 rfl rfl sizeOf22 rfl)) ?_
   refine vc_y rfl rfl ((by exact y_ld st 1 rfl isAgg22 rfl rfl)) ?_
   refine vc_e (e_call [_, _, _, _] rfl rfl call19 rfl (wdecls_any t.locals false t2 hkt.1 [108, 111, 99, 97, 108] (by simp) 1 (by omega) _ _ bw _ _ _ (RowC.kept htl (Same.of_nil st.chg)) (st.wrGet (i := 2) rfl) st.chg.size) ?_)
   rintro _ w ⟨rfl, hp⟩
   obtain ⟨v9, st⟩ := st.wr (i := 2) rfl hp
   dsimp only [setNth] at st
   refine vc_end (vq_then (vc_keep [(4, _), (6, _), (21, _), (22, _), (23, _)] ⟨rfl, rfl, rfl, rfl, rfl, trivial⟩ (vc_seq (vc_region ?_))))
   refine vc_y rfl rfl (y_mv rfl) ?_
   refine vc_y rfl rfl ((by exact y_faz (k := 2) rfl underlying42 rfl rfl sizeOf40 rfl)) ?_
   refine vc_y rfl rfl ((by exact y_ld st 1 rfl isAgg40 rfl rfl)) ?_
   refine vc_e (e_call [_, _, _] rfl rfl call21 rfl (wblock_any _ t.body rfl 1 (by omega) t3 hkt.2.1 (by omega) bw _ _ _ _ _ (htb.kept (Same.of_nil st.chg)) (st.wrGet (i := 2) rfl) st.chg.size h0 (hsg.kept st.chg)) ?_)
   rintro _ w ⟨rfl, hp⟩
   obtain ⟨v9, st⟩ := st.wr (i := 2) rfl hp
   dsimp only [setNth] at st
   refine vc_end (vq_then (vc_keep [(4, _), (21, _), (22, _), (23, _)] ⟨rfl, rfl, rfl, rfl, trivial⟩ (vc_region ?_)))
   refine vc_y rfl rfl (y_mv rfl) ?_
   refine vc_e (e_bsn (l := [[125]].map str) (E := 9) st [(0, _)] rfl rfl rfl (fun w => by simp [Instr.buildSlice, run_underlying underlying36, sizeOf9, zeroValue9, Instr.fill, newRow, newObj, Sem.run, go_sem]) ?_)
   intro b41 w hb41 st
   refine vc_e (e_call [_, _, _] rfl rfl call20 rfl (line_any repeat_any bw _ _ 0 (by omega) [[125]] (by simp) (by simp; try omega) b41 _ _ (st.wrGet (i := 3) rfl) st.chg.size (fun j x hx => cell_nth (st.res (i := 0) rfl) (strs_nth hx)) (fun hk => apart_nth st.nodup (i := 0) (j := 3) (by decide) rfl rfl _ (.head _) hk)) ?_)
   rintro _ w ⟨rfl, hp⟩
   obtain ⟨v9, st⟩ := st.wr (i := 3) rfl hp
   dsimp only [setNth] at st
   refine vc_end (vq_block (vq_then (vc_keep [(4, _), (21, _), (22, _), (23, _)] ⟨rfl, rfl, rfl, rfl, trivial⟩ (vc_region ?_))))
   refine vc_y rfl rfl (y_add rfl rfl (by omega : _ = ((j + 1 : Nat) : Int)) (by omega) (by omega)) ?_
   refine vc_y rfl rfl (y_mv rfl) ?_
   refine vc_end ?_
   refine vq_again (j + 1, v9)  ⟨rfl, rfl, rfl, rfl, trivial⟩ (by rw [thsT_succ htj]; unfold thT; simpa [List.append_assoc, mar] using st.pick [3] rfl (by decide)) ?_ ?_
   ·
    dsimp only; omega
   ·
    dsimp only; omega
  ·
   intro hc24
   try simp only [dn] at hc24
   obtain rfl : j = p.threads.length := by omega
   rw [List.take_length, ← pgT_eq] at st
   obtain ⟨l2, many2, hb2, ho2, hws2, -, -⟩ := st.wrGet (i := 0) rfl
   obtain ⟨oq, cq, hvq⟩ := slice_form ho2
   subst hvq
   refine vc_exit (vq_then_exit (vq_then_exit (vq_block_exit (vq_then (vc_keep [(4, _)] ⟨rfl, trivial⟩ (vc_seq (vc_seq (vc_region ?_))))))))
   refine vc_y rfl rfl (y_mv rfl) ?_
   refine vc_y rfl rfl (y_nck rfl) ?_
   refine vc_y rfl rfl ((by exact y_faz (k := 1) rfl underlying47 rfl rfl sizeOf4 rfl)) ?_
   refine vc_y rfl rfl ((by exact y_ldc rfl isAgg4 (ptr_cell hb2))) ?_
   refine vc_end (vq_then (vc_keep [(4, _), (47, _)] ⟨rfl, rfl, trivial⟩ ?_))
   refine vc_ifs rfl ?_ ?_
   ·
    intro hc47
    try simp only [dn] at hc47
    refine vc_seq (vc_region ?_)
    iterate 2 refine vc_y rfl rfl (y_as rfl) ?_
    refine vc_end (vq_then (vc_keep [(2, _), (3, _)] ⟨rfl, rfl, trivial⟩ (vc_ret (vq_then_ret ?_))))
    refine vq_ret2 st (.inl rfl) results7 (.tmp rfl) (.tmp rfl) ?_
    refine ⟨_, rfl, ?_⟩
    refine ⟨?_, st.chg⟩
    first
     | (have hm : many2 = true := by assumption
        subst hm
        rw [pgRes_long hpo (WS.long hws2)]; rfl)
     | (have hm : many2 = false := by assumption
        subst hm
        obtain ⟨h1, h2⟩ := WS.yes hws2
        subst h1
        rw [pgRes_ok hpo h2]; rfl)
   ·
    intro hc47
    try simp only [dn] at hc47
    refine vc_code_skip (vq_then (vc_keep [(4, _)] ⟨rfl, trivial⟩ (vc_seq (vc_region ?_))))
    refine vc_y rfl rfl (y_mv rfl) ?_
    refine vc_y rfl rfl (y_nck rfl) ?_
    refine vc_y rfl rfl (y_fa0 rfl underlying47 rfl rfl sizeOf45 rfl) ?_
    refine vc_y rfl rfl ((by exact y_ldc rfl isAgg45 (cell_nth (l := [_, _]) hb2 rfl))) ?_
    refine vc_y rfl rfl (y_b2s rfl (p := l2) (own_rdp ho2) rfl underlying45 underlying5 underlying9) ?_
    iterate 2 refine vc_y rfl rfl (y_as rfl) ?_
    refine vc_end (vq_then (vc_keep [(2, _), (3, _)] ⟨rfl, rfl, trivial⟩ (vc_ret ?_)))
    refine vq_ret2 st (.inl rfl) results7 (.tmp rfl) (.tmp rfl) ?_
    refine ⟨_, rfl, ?_⟩
    refine ⟨?_, st.chg⟩
    first
     | (have hm : many2 = true := by assumption
        subst hm
        rw [pgRes_long hpo (WS.long hws2)]; rfl)
     | (have hm : many2 = false := by assumption
        subst hm
        obtain ⟨h1, h2⟩ := WS.yes hws2
        subst h1
        rw [pgRes_ok hpo h2]; rfl)

theorem wcheckP_any (p : Pg) (os ol ot : Option Addr) (cs cl ct : Nat) (w : World) (hS : DcRow w (· < w.heap.size) os p.shared) (hL : DcRow w (· < w.heap.size) ol p.locks) (hT : ThRow w (· < w.heap.size) ot p.threads) (hok : OkP p) (hsg : Sig w) (hlen : pgOk p = true → (pgT p).length ≤ 1099511627776) :
    Ret Tryd.prog 9 [.agg (pgL p os ol ot cs cl ct).toArray] w fun v w' => v = .int .i64 ((pgRes p).2 : Int) ∧ Chg [] w w' := by
 refine ret_of [_] func9 rfl ntmps9 rfl ?_
 have st := St.init w []
 obtain ⟨w0, rfl⟩ : ∃ w0, w0 = w := ⟨_, rfl⟩
 refine vc_seq (vc_region ?_)
 refine vc_e (e_bx (l := [_, _, _]) st rfl rfl rfl rfl ?_)
 intro b1 w hb1 st
 refine vc_y rfl rfl (y_as rfl) ?_
 refine vc_end (vq_then (vc_keep [(1, _)] ⟨rfl, trivial⟩ (vc_seq (vc_region ?_))))
 refine vc_y rfl rfl ((by exact y_lda (vs := [_, _, _]) st 0 rfl isAgg25 sizeOf25 rfl rfl)) ?_
 refine vc_e (e_call [_] rfl rfl call7 rfl (wprintP_any p _ _ _ _ _ _ _ (RowC.mono (RowC.kept hS (Same.of_nil st.chg)) (fun b hb => Nat.lt_of_lt_of_le hb st.chg.size)) (RowC.mono (RowC.kept hL (Same.of_nil st.chg)) (fun b hb => Nat.lt_of_lt_of_le hb st.chg.size)) ((hT.kept (Same.of_nil st.chg)).mono (fun b hb => Nat.lt_of_lt_of_le hb st.chg.size)) hok (hsg.kept st.chg) hlen) ?_)
 rintro _ w ⟨rfl, cw⟩
 replace st := st.call0 cw
 refine vc_y rfl rfl (y_mv rfl) ?_
 iterate 2 refine vc_y rfl rfl (y_ext rfl rfl) ?_
 iterate 2 refine vc_y rfl rfl (y_as rfl) ?_
 refine vc_end (vq_then (vc_keep [(4, _)] ⟨rfl, trivial⟩ (vc_seq (vc_region ?_))))
 refine vc_y rfl rfl (y_mv rfl) ?_
 refine vc_y rfl rfl (y_as rfl) ?_
 refine vc_end (vq_then (vc_keep [(2, _)] ⟨rfl, trivial⟩ (vc_ret ?_)))
 refine vq_ret1 st (.inl rfl) results9 (.tmp rfl) ?_
 refine ⟨_, rfl, ?_⟩
 exact ⟨rfl, st.chg⟩

end Go.Proofs.YtnmhlpnapgojjaaDoor


/- When trees are the same: no program in sight. -/
namespace LexS
open Sx
set_option linter.unusedVariables false
set_option linter.unusedSimpArgs false
def zipA {α β : Type} (f : α → β → Bool) : List α → List β → Bool
  | [], [] => true
  | x :: r, y :: s => f x y && zipA f r s
  | _, _ => false
theorem zipA_len {α β : Type} {f : α → β → Bool} : ∀ {a : List α} {b : List β}, a.length ≠ b.length → zipA f a b = false
  | [], [], h => absurd rfl h
  | x :: r, y :: s, h => by simp only [zipA, zipA_len (f := f) (a := r) (b := s) (by simpa using h), Bool.and_false]
  | [], _ :: _, _ => rfl
  | _ :: _, [], _ => rfl
theorem zipA_no {α β : Type} {f : α → β → Bool} : ∀ {a : List α} {b : List β} {j : Nat} {x : α} {y : β}, a[j]? = some x → b[j]? = some y → f x y = false → zipA f a b = false
  | [], _, j, x, y, h, _, _ => by simp at h
  | _ :: _, [], j, x, y, _, h, _ => by simp at h
  | u :: r, v :: s, 0, x, y, h1, h2, h => by simp at h1 h2; subst h1 h2; simp [zipA, h]
  | u :: r, v :: s, j + 1, x, y, h1, h2, h => by simp only [zipA, zipA_no (f := f) (a := r) (b := s) (by simpa using h1) (by simpa using h2) h, Bool.and_false]
theorem zipA_yes {α β : Type} {f : α → β → Bool} : ∀ {a : List α} {b : List β}, a.length = b.length → (∀ (j : Nat) x y, j < a.length → a[j]? = some x → b[j]? = some y → f x y = true) → zipA f a b = true
  | [], [], _, _ => rfl
  | u :: r, v :: s, hl, h => by
    simp only [zipA, Bool.and_eq_true]
    exact ⟨h 0 u v (by simp) rfl rfl, zipA_yes (by simpa using hl) fun j x y hj h1 h2 => h (j + 1) x y (by simp; omega) (by simpa using h1) (by simpa using h2)⟩
  | [], _ :: _, hl, _ => by simp at hl
  | _ :: _, [], hl, _ => by simp at hl
theorem zipA_refl {α : Type} {f : α → α → Bool} {a : List α} (h : ∀ x ∈ a, f x x = true) : zipA f a a = true :=
  zipA_yes rfl fun j x y hj h1 h2 => by rw [h1] at h2; cases h2; exact h x (List.mem_of_getElem? h1)
mutual
def sameE : Ex → Ex → Bool
  | .mk k op wd nm kids a, y => decide (k = y.k ∧ op = y.op ∧ wd = y.wd ∧ nm = y.nm) && sameEs kids y.kids
termination_by structural e => e
def sameEs : List Ex → List Ex → Bool
  | [], l => l.isEmpty
  | x :: r, l => match l with | [] => false | y :: s => sameE x y && sameEs r s
termination_by structural l => l
end
mutual
def plE : Ex → Ex → Bool
  | .mk k op wd nm kids a, y => decide (a = y.a) && plEs kids y.kids
termination_by structural e => e
def plEs : List Ex → List Ex → Bool
  | [], l => l.isEmpty
  | x :: r, l => match l with | [] => false | y :: s => plE x y && plEs r s
termination_by structural l => l
end
theorem sameEs_eq : ∀ (a b : List Ex), sameEs a b = zipA sameE a b
  | [], [] => rfl
  | [], _ :: _ => rfl
  | _ :: _, [] => by simp [sameEs, zipA]
  | x :: r, y :: s => by simp only [sameEs, zipA, sameEs_eq r s]
theorem plEs_eq : ∀ (a b : List Ex), plEs a b = zipA plE a b
  | [], [] => rfl
  | [], _ :: _ => rfl
  | _ :: _, [] => by simp [plEs, zipA]
  | x :: r, y :: s => by simp only [plEs, zipA, plEs_eq r s]
theorem sameE_eq (e y : Ex) : sameE e y = (decide (e.k = y.k ∧ e.op = y.op ∧ e.wd = y.wd ∧ e.nm = y.nm) && zipA sameE e.kids y.kids) := by
  cases e; rw [sameE, sameEs_eq]; rfl
theorem plE_eq (e y : Ex) : plE e y = (decide (e.a = y.a) && zipA plE e.kids y.kids) := by
  cases e; rw [plE, plEs_eq]; rfl
mutual
def sameS : Sm → Sm → Bool
  | .mk k nm other e body els a, y => decide (k = y.k ∧ nm = y.nm ∧ other = y.other) && zipA sameE e y.e && sameSs body y.body && sameSs els y.els
termination_by structural e => e
def sameSs : List Sm → List Sm → Bool
  | [], l => l.isEmpty
  | x :: r, l => match l with | [] => false | y :: s => sameS x y && sameSs r s
termination_by structural l => l
end
mutual
def plS : Sm → Sm → Bool
  | .mk k nm other e body els a, y => decide (a = y.a) && zipA plE e y.e && plSs body y.body && plSs els y.els
termination_by structural e => e
def plSs : List Sm → List Sm → Bool
  | [], l => l.isEmpty
  | x :: r, l => match l with | [] => false | y :: s => plS x y && plSs r s
termination_by structural l => l
end
theorem sameSs_eq : ∀ (a b : List Sm), sameSs a b = zipA sameS a b
  | [], [] => rfl
  | [], _ :: _ => rfl
  | _ :: _, [] => by simp [sameSs, zipA]
  | x :: r, y :: s => by simp only [sameSs, zipA, sameSs_eq r s]
theorem plSs_eq : ∀ (a b : List Sm), plSs a b = zipA plS a b
  | [], [] => rfl
  | [], _ :: _ => rfl
  | _ :: _, [] => by simp [plSs, zipA]
  | x :: r, y :: s => by simp only [plSs, zipA, plSs_eq r s]
theorem sameS_eq (s y : Sm) : sameS s y = (decide (s.k = y.k ∧ s.nm = y.nm ∧ s.other = y.other) && zipA sameE s.e y.e && zipA sameS s.body y.body && zipA sameS s.els y.els) := by
  cases s; rw [sameS, sameSs_eq, sameSs_eq]; rfl
theorem plS_eq (s y : Sm) : plS s y = (decide (s.a = y.a) && zipA plE s.e y.e && zipA plS s.body y.body && zipA plS s.els y.els) := by
  cases s; rw [plS, plSs_eq, plSs_eq]; rfl
def sameD (d y : Dc) : Bool := decide (d.nm = y.nm ∧ d.wd = y.wd)
def eqD (d y : Dc) : Bool := decide (d.nm = y.nm ∧ d.wd = y.wd ∧ d.a = y.a)
def sameT (t y : Th) : Bool := decide (t.nm = y.nm) && zipA sameD t.locals y.locals && zipA sameS t.body y.body
def exT (t y : Th) : Bool := decide (t.a = y.a) && zipA eqD t.locals y.locals && zipA plS t.body y.body
def sameP (p q : Pg) : Bool := zipA sameD p.shared q.shared && zipA sameD p.locks q.locks && zipA sameT p.threads q.threads
def exactP (p q : Pg) : Bool := sameP p q && zipA eqD p.shared q.shared && zipA eqD p.locks q.locks && zipA exT p.threads q.threads
theorem memE_lt {e x : Ex} (h : x ∈ e.kids) : SizeOf.sizeOf x < SizeOf.sizeOf e := by
  cases e with
  | mk k op wd nm kids a =>
    have := List.sizeOf_lt_of_mem h
    simp only [Ex.kids] at this
    simp only [Ex.mk.sizeOf_spec]; omega
theorem memS_lt {s x : Sm} (h : x ∈ s.body ∨ x ∈ s.els) : SizeOf.sizeOf x < SizeOf.sizeOf s := by
  cases s with
  | mk k nm other e body els a =>
    simp only [Sm.body, Sm.els] at h
    simp only [Sm.mk.sizeOf_spec]
    rcases h with h | h <;> (have := List.sizeOf_lt_of_mem h; omega)
theorem sameE_refl : ∀ (n : Nat) (e : Ex), SizeOf.sizeOf e = n → sameE e e = true := by
  intro n
  refine Nat.strongRecOn n fun n ih e hn => ?_
  subst hn
  rw [sameE_eq]
  simp only [and_self, decide_true, Bool.true_and]
  exact zipA_refl fun x hx => ih _ (memE_lt hx) x rfl
theorem plE_refl : ∀ (n : Nat) (e : Ex), SizeOf.sizeOf e = n → plE e e = true := by
  intro n
  refine Nat.strongRecOn n fun n ih e hn => ?_
  subst hn
  rw [plE_eq]
  simp only [decide_true, Bool.true_and]
  exact zipA_refl fun x hx => ih _ (memE_lt hx) x rfl
theorem sameS_refl : ∀ (n : Nat) (s : Sm), SizeOf.sizeOf s = n → sameS s s = true := by
  intro n
  refine Nat.strongRecOn n fun n ih s hn => ?_
  subst hn
  rw [sameS_eq]
  simp only [and_self, decide_true, Bool.true_and, Bool.and_eq_true]
  exact ⟨⟨zipA_refl fun x hx => sameE_refl _ x rfl, zipA_refl fun x hx => ih _ (memS_lt (.inl hx)) x rfl⟩, zipA_refl fun x hx => ih _ (memS_lt (.inr hx)) x rfl⟩
theorem plS_refl : ∀ (n : Nat) (s : Sm), SizeOf.sizeOf s = n → plS s s = true := by
  intro n
  refine Nat.strongRecOn n fun n ih s hn => ?_
  subst hn
  rw [plS_eq]
  simp only [decide_true, Bool.true_and, Bool.and_eq_true]
  exact ⟨⟨zipA_refl fun x hx => plE_refl _ x rfl, zipA_refl fun x hx => ih _ (memS_lt (.inl hx)) x rfl⟩, zipA_refl fun x hx => ih _ (memS_lt (.inr hx)) x rfl⟩
theorem sameP_refl (p : Pg) : sameP p p = true := by
  unfold sameP
  simp only [Bool.and_eq_true]
  refine ⟨⟨zipA_refl fun x _ => by simp [sameD], zipA_refl fun x _ => by simp [sameD]⟩, zipA_refl fun t _ => ?_⟩
  unfold sameT
  simp only [decide_true, Bool.true_and, Bool.and_eq_true]
  exact ⟨zipA_refl fun x _ => by simp [sameD], zipA_refl fun x _ => sameS_refl _ x rfl⟩
theorem exactP_refl (p : Pg) : exactP p p = true := by
  unfold exactP
  simp only [sameP_refl, Bool.true_and, Bool.and_eq_true]
  refine ⟨⟨zipA_refl fun x _ => by simp [eqD], zipA_refl fun x _ => by simp [eqD]⟩, zipA_refl fun t _ => ?_⟩
  unfold exT
  simp only [decide_true, Bool.true_and, Bool.and_eq_true]
  exact ⟨zipA_refl fun x _ => by simp [eqD], zipA_refl fun x _ => plS_refl _ x rfl⟩
end LexS


namespace Go.Proofs.YtnmhlpnapgojjaaDoor
open Go.RowKit Sx LexS _root_.Go.Proofs.Tryd
set_option linter.unusedVariables false
set_option linter.unusedSimpArgs false
theorem fields67 : (Tryd.prog.fieldsOf 67).toList.map (fun f => (f.name, f.type, f.offset)) = [("Name", 9, 0), ("Word", 2, 1), ("At", 3, 2)] := by kernel_rfl
theorem eqFields67 (p q : Dc) (w : World) : (Op.eqFields 9999 (dcL p).toArray (dcL q).toArray (Tryd.prog.fieldsOf 67).toList).run Tryd.prog w = .ok (eqD p q) w := by
 have h := fields67
 match hf : (Tryd.prog.fieldsOf 67).toList with
 | [a, b, c] =>
  rw [hf] at h
  simp only [List.map_cons, List.map_nil, List.cons.injEq, Prod.mk.injEq, and_true] at h
  obtain ⟨⟨a1, a2, a3⟩, ⟨b1, b2, b3⟩, c1, c2, c3⟩ := h
  have e1 : ∀ (x : Dc) w, (part 9 (dcL x).toArray 0).run Tryd.prog w = .ok (str x.nm) w := fun x w => run_part1 isAgg9 rfl
  have e2 : ∀ (x : Dc) w, (part 2 (dcL x).toArray 1).run Tryd.prog w = .ok (.int .i64 x.wd) w := fun x w => run_part1 isAgg2 rfl
  have e3 : ∀ (x : Dc) w, (part 3 (dcL x).toArray 2).run Tryd.prog w = .ok (.int .i64 x.a) w := fun x w => run_part1 isAgg3 rfl
  have r1 := run_equalIn_string (P := Tryd.prog) w 9998 9 ⟨p.nm.toArray⟩ ⟨q.nm.toArray⟩ underlying9
  have r2 := run_equalIn_int (P := Tryd.prog) w 9998 2 .i64 .i64 p.wd q.wd underlying2
  have r3 := run_equalIn_int (P := Tryd.prog) w 9998 3 .i64 .i64 p.a q.a underlying3
  simp only [str_toList] at r1
  simp only [Op.eqFields, a1, a2, a3, b1, b2, b3, c1, c2, c3, Sem.run_bind, Sem.run_ite, e1, e2, e3, Result.andThen_ok]
  simp only [ne_eq, String.reduceEq, not_false_eq_true, if_true, Sem.run_bind, Sem.run_ite, e1, e2, e3, r1, r2, r3, Result.andThen_ok, Sem.run_pure]
  unfold eqD
  by_cases h1 : p.nm = q.nm
  ·
   by_cases h2 : p.wd = q.wd
   ·
    by_cases h3 : p.a = q.a <;> simp [h1, h2, h3]
   ·
    simp [h1, h2]
  ·
   simp [h1]
 | [] => rw [hf] at h; simp at h
 | [_] => rw [hf] at h; simp at h
 | [_, _] => rw [hf] at h; simp at h
 | _ :: _ :: _ :: _ :: _ => rw [hf] at h; simp at h
section
variable {n : Fr} {kn : Kn} {w : World} {d ty : Nat} {pos : String} {aft : Array Edge} {g : Option (Nat × Bool)}
theorem y_neD {U : Nat} {x y : Operand} {p q : Dc} (hx : evO kn x = some (.agg (dcL p).toArray)) (hy : evO kn y = some (.agg (dcL q).toArray)) : Y Tryd.prog n kn w ⟨some d, .binOp .neq 67 x y U, ty, pos, aft, g⟩ (.bool (!eqD p q)) :=
 y_bo hx hy (by
   have h1 := run_eqGuard_agg (P := Tryd.prog) w .neq 67 x y (dcL p).toArray (dcL q).toArray (by kernel_rfl)
   have h2 := run_neq_struct (P := Tryd.prog) w 67 (dcL p).toArray (dcL q).toArray
   rw [run_equalIn_agg w 9999 67 _ _ (by kernel_rfl) (by kernel_rfl), eqFields67] at h2
   simp only [Sem.run_bind, h1, Result.andThen_ok]
   have h3 : (binOp .neq 67 (.agg (dcL p).toArray) (.agg (dcL q).toArray)).run Tryd.prog w = .ok (.bool (!eqD p q)) w := by rw [h2]; rfl
   exact h3)
end
end Go.Proofs.YtnmhlpnapgojjaaDoor

