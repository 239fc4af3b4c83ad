/- A part of the proof: contracts of functions and plain laws; each theorem says its own conditions. -/
import Derived.Lib.AppendZerosOnto
import Derived.Sort.OwnSorted
import Derived.Test.YtnmhlpnapgojjaaGreatDoorTopReadK2
import Derived.Test.YtnmhlpnapgojjaaGreatDoorTopReadK6
import Derived.Test.YtnmhlpnapgojjaaGreatDoorTopReadK1
import Derived.Test.YtnmhlpnapgojjaaGreatDoorTopReadK3
import Derived.Test.YtnmhlpnapgojjaaGreatDoorTopReadTryzShelfP
set_option linter.unusedVariables false
set_option linter.unusedSimpArgs false
namespace Go.Proofs.YtnmhlpnapgojjaaGreatDoor
open Go.RowKit Sx LexS _root_.Go.Proofs.Tryz
section
variable {n0 : Nat}
theorem WrP.swap {E T bw : Nat} {v : Value} {F G G' : List UInt8} {w w' : World} (p : WrP E n0 T bw v (F ++ G') w w') (h : G' = G ∨ 65536 < G'.length ∧ 65536 < G.length) : WrP E n0 T bw v (F ++ G) w w' :=
 p.re fun l m v' hb hws => hws.swap h
theorem TxR.same {G r : List UInt8} (h : TxR [] G r) (A B : List UInt8) : A ++ r ++ B = A ++ G ++ B ∨ 65536 < (A ++ r ++ B).length ∧ 65536 < (A ++ G ++ B).length := by
 obtain ⟨h1, h2, -, -⟩ := h
 simp only [List.length_nil, Nat.zero_add, List.nil_append] at h1 h2
 rcases Nat.lt_or_ge 65536 G.length with h | h
 ·have := h2 h
  exact .inr ⟨by simp; omega, by simp; omega⟩
 ·rw [h1 h]; exact .inl rfl
theorem wskip_any (s : Sm) (hk : s.k = 7) (d : Nat) (hd : d ≤ 64) (oe ob ol : Option Addr) (ce cb cl : Nat) (bw : Nat) (v : Value) (F : List UInt8) (w : World) (hW : Wr 5 n0 80 bw v F w) (hn0 : n0 ≤ w.heap.size) :
    Ret Tryz.prog 101 [.pointer (some ⟨bw, 0, none⟩), .agg (smL s oe ob ol ce cb cl).toArray, .int .i64 (d : Int)] w fun r w' => r = .tuple #[] ∧ WrP 5 n0 80 bw v (F ++ txtS s d) w w' := by
 refine ret_of [_, _, _] func101 rfl ntmps101 rfl ?_
 have st := St.init w []
 clear st
 obtain ⟨w0, rfl⟩ : ∃ w0, w0 = w := ⟨_, rfl⟩
 have st := St.wrInit hW
 refine sr ?_
 refine vc_e (e_bx (l := [_, _, _, _, _, _, _]) st rfl rfl rfl rfl ?_)
 intro b4 w hb4 st
 refine et (vk2 0 2 (vc_region ?_))
 iterate 2 refine ym ?_
 refine vc_e (e_bsn (l := [[115, 107, 105, 112, 59]].map str) (E := 9) st [(0, _)] rfl rfl rfl (fun w => by simp [Instr.buildSlice, run_underlying underlying50, sizeOf9, zeroValue9, Instr.fill, newRow, newObj, Sem.run, go_sem]) ?_)
 intro b8 w hb8 st
 refine vc_e (e_call [_, _, _] rfl rfl call40 rfl (line_any repeat_any bw _ _ d (by omega) [[115, 107, 105, 112, 59]] (by simp) (by simp) b8 _ _ (st.wrGet (i := 2) rfl) (Nat.le_trans hn0 st.chg.size) (fun j x hx => cell_nth (st.res (i := 0) rfl) (strs_nth hx)) (fun hk => apart_nth st.nodup (i := 0) (j := 2) (by decide) rfl rfl _ (.head _) hk)) ?_)
 rintro _ w ⟨rfl, hp⟩
 obtain ⟨v9, st⟩ := st.wr (i := 2) rfl hp
 dsimp only [setNth] at st
 refine vc_end ?_
 refine vq_ret0 (.inr rfl) results101 ?_
 refine ⟨_, rfl, ?_⟩
 refine ⟨rfl, (st.wrDone (i := 2) rfl).eq ?_⟩
 rw [txtS_flat (by omega)]
 unfold hdS
 rw [hk]
 simp
theorem wprintS_any (s : Sm) (hk : s.k = 6) (d : Nat) (hd : d ≤ 64) (hR : rightS s d = true) (hok : OkS s) (oe ob ol : Option Addr) (ce cb cl : Nat) (bw : Nat) (v : Value) (F : List UInt8) (w : World) (hse : ExRow w (· < n0) oe s.e) (hW : Wr 5 n0 80 bw v F w) (hn0 : n0 ≤ w.heap.size) (h0 : 0 < n0) (hsg : Sig w) (hlx : (txX s.e).length ≤ 1099511627776) :
    Ret Tryz.prog 100 [.pointer (some ⟨bw, 0, none⟩), .agg (smL s oe ob ol ce cb cl).toArray, .int .i64 (d : Int)] w fun r w' => r = .tuple #[] ∧ WrP 5 n0 80 bw v (F ++ txtS s d) w w' := by
 refine ret_of [_, _, _] func100 rfl ntmps100 rfl ?_
 have st := St.init w []
 clear st
 obtain ⟨w0, rfl⟩ : ∃ w0, w0 = w := ⟨_, rfl⟩
 have st := St.wrInit hW
 have hsame : ∀ {w1 : World}, Chg (bw :: v.ownBlock.toList) w0 w1 → Same (· < n0) w0 w1 := fun c => hW.same c
 obtain ⟨⟨r1, r1b⟩, r2, r3, r4, r5, r6, r7, r8, r9⟩ := rightS_iff.1 hR
 obtain ⟨x, hx, hlen, hRx⟩ := rightX_inv (by unfold hasE; simp only [decide_eq_true_eq]; omega) r4
 have hxt := txX_eq hx
 have hkx := hok.e.2 0 x hx
 rw [hxt] at hlx
 refine sr ?_
 refine vc_e (e_bx (l := [_, _, _, _, _, _, _]) st rfl rfl rfl rfl ?_)
 intro b4 w hb4 st
 refine et (vk3 0 2 4 (vc_region ?_))
 iterate 2 refine ym ?_
 refine yfz 3 underlying67 sizeOf40 ?_
 refine yl st 0 isAgg40 ?_
 refine vc_e (e_call [_] rfl rfl call156 rfl (first_any s.e x hx 0 hRx hkx _ _ _ (hse.kept (hsame st.chg)) (Nat.le_trans hn0 st.chg.size) h0 (hsg.kept' st.chg (hW.notin h0)) hlx) ?_)
 rintro _ w ⟨r, rfl, hT, cw⟩
 replace st := st.call0 cw
 have hTl := hT.2.2.1
 simp only [List.length_nil, Nat.zero_add] at hTl
 refine vc_e (e_bsn (l := [[112, 114, 105, 110, 116, 32], r, [59]].map str) (E := 9) st [(0, _), (1, _), (2, _)] rfl rfl rfl (fun w => by simp [Instr.buildSlice, run_underlying underlying50, sizeOf9, zeroValue9, Instr.fill, newRow, newObj, Sem.run, go_sem]) ?_)
 intro b11 w hb11 st
 refine vc_e (e_call [_, _, _] rfl rfl call40 rfl (line_any repeat_any bw _ _ d (by omega) [[112, 114, 105, 110, 116, 32], r, [59]] (by simp) (by simp; omega) b11 _ _ (st.wrGet (i := 2) rfl) (Nat.le_trans hn0 st.chg.size) (fun j x hx => cell_nth (st.res (i := 0) rfl) (strs_nth hx)) (fun hk => apart_nth st.nodup (i := 0) (j := 2) (by decide) rfl rfl _ (.head _) hk)) ?_)
 rintro _ w ⟨rfl, hp⟩
 obtain ⟨v9, st⟩ := st.wr (i := 2) rfl hp
 dsimp only [setNth] at st
 refine vc_end ?_
 refine vq_ret0 (.inr rfl) results100 ?_
 refine ⟨_, rfl, ?_⟩
 refine ⟨rfl, WrP.swap (st.wrDone (i := 2) rfl) ?_⟩
 rw [txtS_flat (by omega)]
 unfold hdS
 rw [hk, hxt]
 have h := hT.same (mar d ++ [112, 114, 105, 110, 116, 32]) [59, 10]
 simpa [List.append_assoc] using h
theorem wassign_any (s : Sm) (hk : s.k = 1) (d : Nat) (hd : d ≤ 64) (hR : rightS s d = true) (hok : OkS s) (oe ob ol : Option Addr) (ce cb cl : Nat) (bw : Nat) (v : Value) (F : List UInt8) (w : World) (hse : ExRow w (· < n0) oe s.e) (hW : Wr 5 n0 80 bw v F w) (hn0 : n0 ≤ w.heap.size) (h0 : 0 < n0) (hsg : Sig w) (hlx : (txX s.e).length ≤ 1099511627776) :
    Ret Tryz.prog 96 [.pointer (some ⟨bw, 0, none⟩), .agg (smL s oe ob ol ce cb cl).toArray, .int .i64 (d : Int)] w fun r w' => r = .tuple #[] ∧ WrP 5 n0 80 bw v (F ++ txtS s d) w w' := by
 refine ret_of [_, _, _] func96 rfl ntmps96 rfl ?_
 have st := St.init w []
 clear st
 obtain ⟨w0, rfl⟩ : ∃ w0, w0 = w := ⟨_, rfl⟩
 have st := St.wrInit hW
 have hsame : ∀ {w1 : World}, Chg (bw :: v.ownBlock.toList) w0 w1 → Same (· < n0) w0 w1 := fun c => hW.same c
 obtain ⟨⟨r1, r1b⟩, r2, r3, r4, r5, r6, r7, r8, r9⟩ := rightS_iff.1 hR
 obtain ⟨x, hx, hlen, hRx⟩ := rightX_inv (by unfold hasE; simp only [decide_eq_true_eq]; omega) r4
 have hxt := txX_eq hx
 have hkx := hok.e.2 0 x hx
 rw [hxt] at hlx
 have hnm : s.nm.length ≤ 32 := by
  rw [show hasN s.k = true by unfold hasN; simp only [decide_eq_true_eq]; omega] at r2
  exact isName_le (by simpa [nmOk] using r2)
 refine sr ?_
 refine vc_e (e_bx (l := [_, _, _, _, _, _, _]) st rfl rfl rfl rfl ?_)
 intro b4 w hb4 st
 refine et (vk3 0 2 4 ?_)
 refine vdr Tryz.mixed [Yt 0, Yt 1, Yt 2, Yt 3, Yt 4, Yt 5, Nt 6, Nt 7, Nt 8] [.blk b4 (.cells (smL s oe ob ol ce cb cl).toArray 67 (0, 0))] st ?_
 clear st; intro w st hS
 iterate 2 refine pm hS ?_
 refine pfz hS 1 underlying67 sizeOf9 ?_
 refine pld hS 0 isAgg9 ?_
 refine pfz hS 3 underlying67 sizeOf40 ?_
 refine pld hS 0 isAgg40 ?_
 refine vp_do rfl (e_call [_] rfl rfl call156 rfl (first_any s.e x hx 0 hRx hkx _ _ _ (hse.kept (hsame st.chg)) (Nat.le_trans hn0 st.chg.size) h0 (hsg.kept' st.chg (hW.notin h0)) hlx) ?_)
 rintro _ w ⟨r, rfl, hT, cw⟩
 replace st := st.call0 cw
 have hTl := hT.2.2.1
 simp only [List.length_nil, Nat.zero_add] at hTl
 refine vp_next st.dr ?_; intro hS
 refine vp_do rfl (e_bsn (l := [s.nm, [32, 61, 32], r, [59]].map str) (E := 9) st [(0, _), (1, _), (2, _), (3, _)] rfl rfl rfl (fun w => by simp [Instr.buildSlice, run_underlying underlying50, sizeOf9, zeroValue9, Instr.fill, newRow, newObj, Sem.run, go_sem]) ?_)
 intro b13 w hb13 st
 refine vp_next st.dr ?_; intro hS
 refine vp_do rfl (e_call [_, _, _] rfl rfl call40 rfl (line_any repeat_any bw _ _ d (by omega) [s.nm, [32, 61, 32], r, [59]] (by simp) (by simp; omega) b13 _ _ (st.wrGet (i := 2) rfl) (Nat.le_trans hn0 st.chg.size) (fun j x hx => cell_nth (st.res (i := 0) rfl) (strs_nth hx)) (fun hk => apart_nth st.nodup (i := 0) (j := 2) (by decide) rfl rfl _ (.head _) hk)) ?_)
 rintro _ w ⟨rfl, hp⟩
 obtain ⟨v9, st⟩ := st.wr (i := 2) rfl hp
 dsimp only [setNth] at st
 refine vp_next st.dr ?_; intro hS
 refine vp_end ?_
 refine vq_ret0 (.inr rfl) results96 ?_
 refine ⟨_, rfl, ?_⟩
 refine ⟨rfl, WrP.swap (st.wrDone (i := 2) rfl) ?_⟩
 rw [txtS_flat (by omega)]
 unfold hdS
 rw [hk, hxt]
 have h := hT.same (mar d ++ (s.nm ++ [32, 61, 32])) [59, 10]
 simpa [List.append_assoc] using h
theorem wswap_any (s : Sm) (hk : s.k = 2) (d : Nat) (hd : d ≤ 64) (hR : rightS s d = true) (hok : OkS s) (oe ob ol : Option Addr) (ce cb cl : Nat) (bw : Nat) (v : Value) (F : List UInt8) (w : World) (hse : ExRow w (· < n0) oe s.e) (hW : Wr 5 n0 80 bw v F w) (hn0 : n0 ≤ w.heap.size) (h0 : 0 < n0) (hsg : Sig w) (hlx : (txX s.e).length ≤ 1099511627776) :
    Ret Tryz.prog 97 [.pointer (some ⟨bw, 0, none⟩), .agg (smL s oe ob ol ce cb cl).toArray, .int .i64 (d : Int)] w fun r w' => r = .tuple #[] ∧ WrP 5 n0 80 bw v (F ++ txtS s d) w w' := by
 refine ret_of [_, _, _] func97 rfl ntmps97 rfl ?_
 have st := St.init w []
 clear st
 obtain ⟨w0, rfl⟩ : ∃ w0, w0 = w := ⟨_, rfl⟩
 have st := St.wrInit hW
 have hsame : ∀ {w1 : World}, Chg (bw :: v.ownBlock.toList) w0 w1 → Same (· < n0) w0 w1 := fun c => hW.same c
 obtain ⟨⟨r1, r1b⟩, r2, r3, r4, r5, r6, r7, r8, r9⟩ := rightS_iff.1 hR
 obtain ⟨x, hx, hlen, hRx⟩ := rightX_inv (by unfold hasE; simp only [decide_eq_true_eq]; omega) r4
 have hxt := txX_eq hx
 have hkx := hok.e.2 0 x hx
 rw [hxt] at hlx
 have hnm : s.nm.length ≤ 32 := by
  rw [show hasN s.k = true by unfold hasN; simp only [decide_eq_true_eq]; omega] at r2
  exact isName_le (by simpa [nmOk] using r2)
 have hot : s.other.length ≤ 32 := by
  rw [show decide (s.k = 2) = true by simp only [decide_eq_true_eq]; omega] at r3
  exact isName_le (by simpa [nmOk] using r3)
 refine sr ?_
 refine vc_e (e_bx (l := [_, _, _, _, _, _, _]) st rfl rfl rfl rfl ?_)
 intro b4 w hb4 st
 refine et (vk3 0 2 4 ?_)
 refine vdr Tryz.mixed [Yt 0, Yt 1, Yt 2, Yt 3, Yt 4, Yt 5, Yt 6, Yt 7, Nt 8, Nt 9, Nt 10] [.blk b4 (.cells (smL s oe ob ol ce cb cl).toArray 67 (0, 0))] st ?_
 clear st; intro w st hS
 iterate 2 refine pm hS ?_
 refine pfz hS 1 underlying67 sizeOf9 ?_
 refine pld hS 0 isAgg9 ?_
 refine pfz hS 2 underlying67 sizeOf9 ?_
 refine pld hS 0 isAgg9 ?_
 refine pfz hS 3 underlying67 sizeOf40 ?_
 refine pld hS 0 isAgg40 ?_
 refine vp_do rfl (e_call [_] rfl rfl call156 rfl (first_any s.e x hx 0 hRx hkx _ _ _ (hse.kept (hsame st.chg)) (Nat.le_trans hn0 st.chg.size) h0 (hsg.kept' st.chg (hW.notin h0)) hlx) ?_)
 rintro _ w ⟨r, rfl, hT, cw⟩
 replace st := st.call0 cw
 have hTl := hT.2.2.1
 simp only [List.length_nil, Nat.zero_add] at hTl
 refine vp_next st.dr ?_; intro hS
 refine vp_do rfl (e_bsn (l := [s.nm, [32, 61, 32, 115, 119, 97, 112, 40], s.other, [44, 32], r, [41, 59]].map str) (E := 9) st [(0, _), (1, _), (2, _), (3, _), (4, _), (5, _)] rfl rfl rfl (fun w => by simp [Instr.buildSlice, run_underlying underlying50, sizeOf9, zeroValue9, Instr.fill, newRow, newObj, Sem.run, go_sem]) ?_)
 intro b15 w hb15 st
 refine vp_next st.dr ?_; intro hS
 refine vp_do rfl (e_call [_, _, _] rfl rfl call40 rfl (line_any repeat_any bw _ _ d (by omega) [s.nm, [32, 61, 32, 115, 119, 97, 112, 40], s.other, [44, 32], r, [41, 59]] (by simp) (by simp; omega) b15 _ _ (st.wrGet (i := 2) rfl) (Nat.le_trans hn0 st.chg.size) (fun j x hx => cell_nth (st.res (i := 0) rfl) (strs_nth hx)) (fun hk => apart_nth st.nodup (i := 0) (j := 2) (by decide) rfl rfl _ (.head _) hk)) ?_)
 rintro _ w ⟨rfl, hp⟩
 obtain ⟨v9, st⟩ := st.wr (i := 2) rfl hp
 dsimp only [setNth] at st
 refine vp_next st.dr ?_; intro hS
 refine vp_end ?_
 refine vq_ret0 (.inr rfl) results97 ?_
 refine ⟨_, rfl, ?_⟩
 refine ⟨rfl, WrP.swap (st.wrDone (i := 2) rfl) ?_⟩
 rw [txtS_flat (by omega)]
 unfold hdS
 rw [hk, hxt]
 have h := hT.same (mar d ++ (s.nm ++ [32, 61, 32, 115, 119, 97, 112, 40] ++ s.other ++ [44, 32])) [41, 59, 10]
 simpa [List.append_assoc] using h
end
end Go.Proofs.YtnmhlpnapgojjaaGreatDoor


namespace Go.Proofs.YtnmhlpnapgojjaaGreatDoor
open Go.RowKit Sx LexS _root_.Go.Proofs.Tryz
section
variable {n0 : Nat}

theorem wlock_any (s : Sm) (hk : s.k = 5) (d : Nat) (hd : d ≤ 64) (hR : rightS s d = true) (hok : OkS s) (oe ob ol : Option Addr) (ce cb cl : Nat) (bw : Nat) (v : Value) (F : List UInt8) (w : World) (hse : ExRow w (· < n0) oe s.e) (hsb : SmRow w (· < n0) ob s.body) (hsl : SmRow w (· < n0) ol s.els) (hW : Wr 5 n0 80 bw v F w) (hn0 : n0 ≤ w.heap.size) (h0 : 0 < n0) (hsg : Sig w) (hlx : (txX s.e).length ≤ 1099511627776) (hrec : ∀ (l : List Sm), (l = s.body ∨ l = s.els) → ∀ (bw : Nat) (v : Value) (F : List UInt8) (oa : Option Addr) (cap : Nat) (w : World), SmRow w (· < n0) oa l → Wr 5 n0 80 bw v F w → n0 ≤ w.heap.size → Sig w → d < 64 →
      Ret Tryz.prog 41 [.pointer (some ⟨bw, 0, none⟩), .slice oa l.length cap, .int .i64 ((d + 1 : Nat) : Int)] w fun r w' => r = .tuple #[] ∧ WrP 5 n0 80 bw v (F ++ txtSs l (d + 1)) w w') :
  Ret Tryz.prog 99 [.pointer (some ⟨bw, 0, none⟩), .agg (smL s oe ob ol ce cb cl).toArray, .int .i64 (d : Int)] w fun r w' => r = .tuple #[] ∧ WrP 5 n0 80 bw v (F ++ txtS s d) w w' := by
 refine ret_of [_, _, _] func99 rfl ntmps99 rfl ?_
 have st := St.init w []
 clear st
 obtain ⟨w0, rfl⟩ : ∃ w0, w0 = w := ⟨_, rfl⟩
 have st := St.wrInit hW
 have hsame : ∀ {w1 : World}, Chg (bw :: v.ownBlock.toList) w0 w1 → Same (· < n0) w0 w1 := fun c => hW.same c
 obtain ⟨⟨r1, r1b⟩, r2, r3, r4, r5, r6, r7, r8, r9⟩ := rightS_iff.1 hR
 have hnm : s.nm.length ≤ 32 := by
  rw [show hasN s.k = true by unfold hasN; simp only [decide_eq_true_eq]; omega] at r2
  exact isName_le (by simpa [nmOk] using r2)
 have hd64 : d < 64 := by
  rcases r7 with h | h
  ·have hB : hasB s.k = true := by unfold hasB; simp only [decide_eq_true_eq]; omega
   rw [hB] at h; cases h.1
  ·exact h
 refine sr ?_
 refine vc_e (e_bx (l := [_, _, _, _, _, _, _]) st rfl rfl rfl rfl ?_)
 intro b4 w hb4 st
 refine et (vk3 0 2 4 (sr ?_))
 iterate 2 refine ym ?_
 refine yfz 1 underlying67 sizeOf9 ?_
 refine yl st 0 isAgg9 ?_
 refine vc_e (e_bsn (l := [[108, 111, 99, 107, 32], s.nm, [32, 123]].map str) (E := 9) st [(0, _), (1, _), (2, _)] rfl rfl rfl (fun w => by simp [Instr.buildSlice, run_underlying underlying50, sizeOf9, zeroValue9, Instr.fill, newRow, newObj, Sem.run, go_sem]) ?_)
 intro b10 w hb10 st
 refine vc_e (e_call [_, _, _] rfl rfl call40 rfl (line_any repeat_any bw _ _ d (by omega) [[108, 111, 99, 107, 32], s.nm, [32, 123]] (by simp) (by simp; omega) b10 _ _ (st.wrGet (i := 2) rfl) (Nat.le_trans hn0 st.chg.size) (fun j x hx => cell_nth (st.res (i := 0) rfl) (strs_nth hx)) (fun hk => apart_nth st.nodup (i := 0) (j := 2) (by decide) rfl rfl _ (.head _) hk)) ?_)
 rintro _ w ⟨rfl, hp⟩
 obtain ⟨v9, st⟩ := st.wr (i := 2) rfl hp
 dsimp only [setNth] at st
 refine et (vk3 0 2 4 (sr ?_))
 refine ym ?_
 refine yfz 4 underlying67 sizeOf65 ?_
 refine yl st 1 isAgg65 ?_
 refine ym ?_
 refine vy (y_add rfl rfl (by omega : _ = ((d + 1 : Nat) : Int)) (by omega) (by omega)) ?_
 refine vc_e (e_call [_, _, _] rfl rfl call41 rfl (hrec _ (.inl rfl) bw _ _ _ _ _ (hsb.kept (hsame st.chg)) (st.wrGet (i := 2) rfl) (Nat.le_trans hn0 st.chg.size) (hsg.kept' st.chg (hW.notin h0)) hd64) ?_)
 rintro _ w ⟨rfl, hp⟩
 obtain ⟨v9, st⟩ := st.wr (i := 2) rfl hp
 dsimp only [setNth] at st
 refine et (vk2 0 2 (vc_region ?_))
 iterate 2 refine ym ?_
 refine vc_e (e_bsn (l := [[125]].map str) (E := 9) st [(0, _)] rfl rfl rfl (fun w => by simp [Instr.buildSlice, run_underlying underlying50, sizeOf9, zeroValue9, Instr.fill, newRow, newObj, Sem.run, go_sem]) ?_)
 intro b20 w hb20 st
 refine vc_e (e_call [_, _, _] rfl rfl call40 rfl (line_any repeat_any bw _ _ d (by omega) [[125]] (by simp) (by simp) b20 _ _ (st.wrGet (i := 3) rfl) (Nat.le_trans hn0 st.chg.size) (fun j x hx => cell_nth (st.res (i := 0) rfl) (strs_nth hx)) (fun hk => apart_nth st.nodup (i := 0) (j := 3) (by decide) rfl rfl _ (.head _) hk)) ?_)
 rintro _ w ⟨rfl, hp⟩
 obtain ⟨v9, st⟩ := st.wr (i := 3) rfl hp
 dsimp only [setNth] at st
 refine vc_end ?_
 refine vq_ret0 (.inr rfl) results99 ?_
 refine ⟨_, rfl, ?_⟩
 refine ⟨rfl, (st.wrDone (i := 3) rfl).eq ?_⟩
 rw [txtS_lock hk]
 unfold hdS
 rw [hk]
 simp [List.append_assoc]
theorem wcond_any (s : Sm) (hk : s.k = 3 ∨ s.k = 4) (d : Nat) (hd : d ≤ 64) (hR : rightS s d = true) (hok : OkS s) (oe ob ol : Option Addr) (ce cb cl : Nat) (bw : Nat) (v : Value) (F : List UInt8) (w : World) (hse : ExRow w (· < n0) oe s.e) (hsb : SmRow w (· < n0) ob s.body) (hsl : SmRow w (· < n0) ol s.els) (hW : Wr 5 n0 80 bw v F w) (hn0 : n0 ≤ w.heap.size) (h0 : 0 < n0) (hsg : Sig w) (hlx : (txX s.e).length ≤ 1099511627776) (hrec : ∀ (l : List Sm), (l = s.body ∨ l = s.els) → ∀ (bw : Nat) (v : Value) (F : List UInt8) (oa : Option Addr) (cap : Nat) (w : World), SmRow w (· < n0) oa l → Wr 5 n0 80 bw v F w → n0 ≤ w.heap.size → Sig w → d < 64 →
      Ret Tryz.prog 41 [.pointer (some ⟨bw, 0, none⟩), .slice oa l.length cap, .int .i64 ((d + 1 : Nat) : Int)] w fun r w' => r = .tuple #[] ∧ WrP 5 n0 80 bw v (F ++ txtSs l (d + 1)) w w') :
  Ret Tryz.prog 98 [.pointer (some ⟨bw, 0, none⟩), .agg (smL s oe ob ol ce cb cl).toArray, .int .i64 (d : Int)] w fun r w' => r = .tuple #[] ∧ WrP 5 n0 80 bw v (F ++ txtS s d) w w' := by
 refine ret_of [_, _, _] func98 rfl ntmps98 rfl ?_
 have st := St.init w []
 clear st
 obtain ⟨w0, rfl⟩ : ∃ w0, w0 = w := ⟨_, rfl⟩
 have st := St.wrInit hW
 have hsame : ∀ {w1 : World}, Chg (bw :: v.ownBlock.toList) w0 w1 → Same (· < n0) w0 w1 := fun c => hW.same c
 obtain ⟨⟨r1, r1b⟩, r2, r3, r4, r5, r6, r7, r8, r9⟩ := rightS_iff.1 hR
 obtain ⟨x, hx, hlen, hRx⟩ := rightX_inv (by unfold hasE; simp only [decide_eq_true_eq]; omega) r4
 have hxt := txX_eq hx
 have hkx := hok.e.2 0 x hx
 rw [hxt] at hlx
 have hd64 : d < 64 := by
  rcases r7 with h | h
  ·have hB : hasB s.k = true := by unfold hasB; simp only [decide_eq_true_eq]; omega
   rw [hB] at h; cases h.1
  ·exact h
 refine sr ?_
 refine vc_e (e_bx (l := [_, _, _, _, _, _, _]) st rfl rfl rfl rfl ?_)
 intro b4 w hb4 st
 refine et (vk3 0 2 4 (sr ?_))
 refine ya ?_
 refine et (vk4 0 2 4 6 ?_)
 refine vc_cut (w0 := w0) (M := (bw :: v.ownBlock.toList)) (fun (_ : Unit) => [(0, .pointer (some ⟨bw, 0, none⟩)), (2, .int .i64 (d : Int)), (4, .pointer (some ⟨b4, 0, none⟩)), (6, str (if s.k = 4 then [119, 104, 105, 108, 101, 32, 40] else [105, 102, 32, 40]))]) (fun _ => [.blk b4 (.cells (smL s oe ob ol ce cb cl).toArray 67 (0, 0)), wrR (bw :: v.ownBlock.toList) w0.heap.size 5 n0 80 bw v F]) (fun _ _ => True) ?_ ?_
 ·refine vc_seq ?_
  refine vc_region ?_
  refine vy (y_fa0 rfl underlying67 rfl rfl sizeOf64 rfl) ?_
  refine yl st 0 isAgg64 ?_
  refine vy (y_eqi rfl rfl) ?_
  refine et (vk5 0 2 4 6 9 ?_)
  refine vif ?_ ?_
  intro hc9
  try simp only [dn] at hc9
  refine vc_region ?_
  refine ya ?_
  refine vc_end ?_
  rotate_left
  intro hc9
  try simp only [dn] at hc9
  refine vc_code_skip ?_
  all_goals
   refine vq_meet () ⟨rfl, rfl, rfl, by simp only [Sx.put, find, Nat.beq]; first | rw [if_pos (by assumption)] | rw [if_neg (by assumption)], trivial⟩ st ?_
   ·trivial
 clear st
 rintro ⟨⟩ w - st
 refine sr ?_
 iterate 3 refine ym ?_
 refine yfz 3 underlying67 sizeOf40 ?_
 refine yl st 0 isAgg40 ?_
 refine vc_e (e_call [_] rfl rfl call156 rfl (first_any s.e x hx 0 hRx hkx _ _ _ (hse.kept (hsame st.chg)) (Nat.le_trans hn0 st.chg.size) h0 (hsg.kept' st.chg (hW.notin h0)) hlx) ?_)
 rintro _ w ⟨r, rfl, hT, cw⟩
 replace st := st.call0 cw
 have hTl := hT.2.2.1
 simp only [List.length_nil, Nat.zero_add] at hTl
 refine vc_e (e_bsn (l := [(if s.k = 4 then [119, 104, 105, 108, 101, 32, 40] else [105, 102, 32, 40]), r, [41, 32, 123]].map str) (E := 9) st [(0, _), (1, _), (2, _)] rfl rfl rfl (fun w => by simp [Instr.buildSlice, run_underlying underlying50, sizeOf9, zeroValue9, Instr.fill, newRow, newObj, Sem.run, go_sem]) ?_)
 intro b16 w hb16 st
 refine vc_e (e_call [_, _, _] rfl rfl call40 rfl (line_any repeat_any bw _ _ d (by omega) [(if s.k = 4 then [119, 104, 105, 108, 101, 32, 40] else [105, 102, 32, 40]), r, [41, 32, 123]] (by simp) (by simp; split <;> simp <;> omega) b16 _ _ (st.wrGet (i := 2) rfl) (Nat.le_trans hn0 st.chg.size) (fun j x hx => cell_nth (st.res (i := 0) rfl) (strs_nth hx)) (fun hk => apart_nth st.nodup (i := 0) (j := 2) (by decide) rfl rfl _ (.head _) hk)) ?_)
 rintro _ w ⟨rfl, hp⟩
 obtain ⟨v9, st⟩ := st.wr (i := 2) rfl hp
 dsimp only [setNth] at st
 refine et (vk3 0 2 4 (sr ?_))
 refine ym ?_
 refine yfz 4 underlying67 sizeOf65 ?_
 refine yl st 1 isAgg65 ?_
 refine ym ?_
 refine vy (y_add rfl rfl (by omega : _ = ((d + 1 : Nat) : Int)) (by omega) (by omega)) ?_
 refine vc_e (e_call [_, _, _] rfl rfl call41 rfl (hrec _ (.inl rfl) bw _ _ _ _ _ (hsb.kept (hsame st.chg)) (st.wrGet (i := 2) rfl) (Nat.le_trans hn0 st.chg.size) (hsg.kept' st.chg (hW.notin h0)) hd64) ?_)
 rintro _ w ⟨rfl, hp⟩
 obtain ⟨v9, st⟩ := st.wr (i := 2) rfl hp
 dsimp only [setNth] at st
 refine et (vk3 0 2 4 (vc_seq (sr ?_)))
 refine yfz 5 underlying67 sizeOf65 ?_
 refine yl st 1 isAgg65 ?_
 refine vy (y_lensl rfl underlying65) ?_
 refine vy (y_gtr rfl rfl) ?_
 refine et (vk4 0 2 4 27 ?_)
 refine vif ?_ ?_
 intro hc27
 try simp only [dn] at hc27
 refine sr ?_
 iterate 2 refine ym ?_
 refine vc_e (e_bsn (l := [[125, 32, 101, 108, 115, 101, 32, 123]].map str) (E := 9) st [(0, _)] rfl rfl rfl (fun w => by simp [Instr.buildSlice, run_underlying underlying50, sizeOf9, zeroValue9, Instr.fill, newRow, newObj, Sem.run, go_sem]) ?_)
 intro b30 w hb30 st
 refine vc_e (e_call [_, _, _] rfl rfl call40 rfl (line_any repeat_any bw _ _ d (by omega) [[125, 32, 101, 108, 115, 101, 32, 123]] (by simp) (by simp) b30 _ _ (st.wrGet (i := 3) rfl) (Nat.le_trans hn0 st.chg.size) (fun j x hx => cell_nth (st.res (i := 0) rfl) (strs_nth hx)) (fun hk => apart_nth st.nodup (i := 0) (j := 3) (by decide) rfl rfl _ (.head _) hk)) ?_)
 rintro _ w ⟨rfl, hp⟩
 obtain ⟨v9, st⟩ := st.wr (i := 3) rfl hp
 dsimp only [setNth] at st
 refine et (vk3 0 2 4 (vc_region ?_))
 refine ym ?_
 refine yfz 5 underlying67 sizeOf65 ?_
 refine yl st 2 isAgg65 ?_
 refine ym ?_
 refine vy (y_add rfl rfl (by omega : _ = ((d + 1 : Nat) : Int)) (by omega) (by omega)) ?_
 refine vc_e (e_call [_, _, _] rfl rfl call41 rfl (hrec _ (.inr rfl) bw _ _ _ _ _ (hsl.kept (hsame st.chg)) (st.wrGet (i := 3) rfl) (Nat.le_trans hn0 st.chg.size) (hsg.kept' st.chg (hW.notin h0)) hd64) ?_)
 rintro _ w ⟨rfl, hp⟩
 obtain ⟨v9, st⟩ := st.wr (i := 3) rfl hp
 dsimp only [setNth] at st
 refine et (vk2 0 2 (vc_region ?_))
 iterate 2 refine ym ?_
 refine vc_e (e_bsn (l := [[125]].map str) (E := 9) st [(0, _)] rfl rfl rfl (fun w => by simp [Instr.buildSlice, run_underlying underlying50, sizeOf9, zeroValue9, Instr.fill, newRow, newObj, Sem.run, go_sem]) ?_)
 intro b40 w hb40 st
 refine vc_e (e_call [_, _, _] rfl rfl call40 rfl (line_any repeat_any bw _ _ d (by omega) [[125]] (by simp) (by simp) b40 _ _ (st.wrGet (i := 4) rfl) (Nat.le_trans hn0 st.chg.size) (fun j x hx => cell_nth (st.res (i := 0) rfl) (strs_nth hx)) (fun hk => apart_nth st.nodup (i := 0) (j := 4) (by decide) rfl rfl _ (.head _) hk)) ?_)
 rintro _ w ⟨rfl, hp⟩
 obtain ⟨v9, st⟩ := st.wr (i := 4) rfl hp
 dsimp only [setNth] at st
 refine vc_end ?_
 refine vq_ret0 (.inr rfl) results98 ?_
 refine ⟨_, rfl, ?_⟩
 refine ⟨rfl, WrP.swap (G' := mar d ++ (if s.k = 4 then [119, 104, 105, 108, 101, 32, 40] else [105, 102, 32, 40]) ++ r ++ ([41, 32, 123, 10] ++ txtSs s.body (d + 1) ++ (mar d ++ [125, 32, 101, 108, 115, 101, 32, 123, 10] ++ txtSs s.els (d + 1)) ++ mar d ++ [125, 10])) ((st.wrDone (i := 4) rfl).eq (by simp [List.append_assoc])) ?_⟩
 rw [txtS_cond hk, if_pos (c := 0 < s.els.length) (by omega)]
 unfold hdS
 rw [if_neg (c := s.k = 1) (by omega), if_neg (c := s.k = 2) (by omega), if_neg (c := s.k = 6) (by omega), if_neg (c := s.k = 7) (by omega), if_neg (c := s.k = 5) (by omega), hxt]
 have h := hT.same (mar d ++ (if s.k = 4 then [119, 104, 105, 108, 101, 32, 40] else [105, 102, 32, 40])) ([41, 32, 123, 10] ++ txtSs s.body (d + 1) ++ (mar d ++ [125, 32, 101, 108, 115, 101, 32, 123, 10] ++ txtSs s.els (d + 1)) ++ mar d ++ [125, 10])
 rotate_left
 intro hc27
 try simp only [dn] at hc27
 refine kt (vk2 0 2 (vc_region ?_))
 iterate 2 refine ym ?_
 refine vc_e (e_bsn (l := [[125]].map str) (E := 9) st [(0, _)] rfl rfl rfl (fun w => by simp [Instr.buildSlice, run_underlying underlying50, sizeOf9, zeroValue9, Instr.fill, newRow, newObj, Sem.run, go_sem]) ?_)
 intro b40 w hb40 st
 refine vc_e (e_call [_, _, _] rfl rfl call40 rfl (line_any repeat_any bw _ _ d (by omega) [[125]] (by simp) (by simp) b40 _ _ (st.wrGet (i := 3) rfl) (Nat.le_trans hn0 st.chg.size) (fun j x hx => cell_nth (st.res (i := 0) rfl) (strs_nth hx)) (fun hk => apart_nth st.nodup (i := 0) (j := 3) (by decide) rfl rfl _ (.head _) hk)) ?_)
 rintro _ w ⟨rfl, hp⟩
 obtain ⟨v9, st⟩ := st.wr (i := 3) rfl hp
 dsimp only [setNth] at st
 refine vc_end ?_
 refine vq_ret0 (.inr rfl) results98 ?_
 refine ⟨_, rfl, ?_⟩
 refine ⟨rfl, WrP.swap (G' := mar d ++ (if s.k = 4 then [119, 104, 105, 108, 101, 32, 40] else [105, 102, 32, 40]) ++ r ++ ([41, 32, 123, 10] ++ txtSs s.body (d + 1) ++ mar d ++ [125, 10])) ((st.wrDone (i := 3) rfl).eq (by simp [List.append_assoc])) ?_⟩
 rw [txtS_cond hk, if_neg (c := 0 < s.els.length) (by omega)]
 unfold hdS
 rw [if_neg (c := s.k = 1) (by omega), if_neg (c := s.k = 2) (by omega), if_neg (c := s.k = 6) (by omega), if_neg (c := s.k = 7) (by omega), if_neg (c := s.k = 5) (by omega), hxt]
 have h := hT.same (mar d ++ (if s.k = 4 then [119, 104, 105, 108, 101, 32, 40] else [105, 102, 32, 40])) ([41, 32, 123, 10] ++ txtSs s.body (d + 1) ++ mar d ++ [125, 10])
 all_goals
  simpa only [List.append_assoc, List.nil_append] using h
end
end Go.Proofs.YtnmhlpnapgojjaaGreatDoor


namespace Go.Proofs.YtnmhlpnapgojjaaGreatDoor
open Go.RowKit Sx LexS _root_.Go.Proofs.Tryz
theorem txX_le {s : Sm} {d : Nat} (h : rightS s d = true) : (txX s.e).length ≤ (txtS s d).length := by
 obtain ⟨⟨r1, r1b⟩, r2, r3, r4, r5, r6, r7, r8, r9⟩ := rightS_iff.1 h
 rcases (by omega : s.k = 1 ∨ s.k = 2 ∨ s.k = 3 ∨ s.k = 4 ∨ s.k = 5 ∨ s.k = 6 ∨ s.k = 7) with h | h | h | h | h | h | h
 ·rw [txtS_flat (by omega)]; unfold hdS; rw [h]; simp; omega
 ·rw [txtS_flat (by omega)]; unfold hdS; rw [h]; simp; omega
 ·rw [txtS_cond (by omega)]; unfold hdS; rw [h]; simp; omega
 ·rw [txtS_cond (by omega)]; unfold hdS; rw [h]; simp; omega
 ·have h0 : s.e.length = 0 := by rw [h] at r4; simpa [rightX, hasE] using r4
  rw [List.eq_nil_of_length_eq_zero h0]; simp [txX]
 ·rw [txtS_flat (by omega)]; unfold hdS; rw [h]; simp; omega
 ·have h0 : s.e.length = 0 := by rw [h] at r4; simpa [rightX, hasE] using r4
  rw [List.eq_nil_of_length_eq_zero h0]; simp [txX]
theorem within_le {s : Sm} {d : Nat} {l : List Sm} (h : rightS s d = true) (hl : l = s.body ∨ l = s.els) : (txtSs l (d + 1)).length ≤ (txtS s d).length := by
 obtain ⟨⟨r1, r1b⟩, r2, r3, r4, r5, r6, r7, r8, r9⟩ := rightS_iff.1 h
 by_cases h0 : l.length = 0
 ·rw [List.eq_nil_of_length_eq_zero h0]; simp [txtSs]
 rcases hl with rfl | rfl
 ·have hB : hasB s.k = true := r5.resolve_right h0
  unfold hasB at hB
  simp only [decide_eq_true_eq] at hB
  rcases (by omega : s.k = 5 ∨ (s.k = 3 ∨ s.k = 4)) with h | h
  ·rw [txtS_lock h]; simp; omega
  ·rw [txtS_cond h]; simp; omega
 ·have hk : s.k = 3 := r6.resolve_right h0
  rw [txtS_cond (.inl hk), if_pos (by omega)]; simp; omega
theorem txtS_le {ss : List Sm} {d j : Nat} {s : Sm} (h : ss[j]? = some s) : (txtS s d).length ≤ (txtSs ss d).length := by
 rw [txtSs_split ss d (j + 1), txtSs_succ h]; simp; omega
def fnV (f bw : Nat) : Value := .func (.func f) #[.pointer (some ⟨bw, 0, none⟩)] #[]
def funL (bw : Nat) : List Value := [.nilFunc, fnV 96 bw, fnV 97 bw, fnV 98 bw, fnV 98 bw, fnV 99 bw, fnV 100 bw, fnV 101 bw]
def fnOf (m : Nat) : Nat := [101, 96, 97, 98, 98, 99, 100, 101].getD m 101
theorem fnOf_at (m bw : Nat) (h1 : 1 ≤ m) (h7 : m ≤ 7) : nth (funL bw) (m * 1) = some (fnV (fnOf m) bw) := by
 rcases (by omega : m = 1 ∨ m = 2 ∨ m = 3 ∨ m = 4 ∨ m = 5 ∨ m = 6 ∨ m = 7) with rfl | rfl | rfl | rfl | rfl | rfl | rfl <;> rfl
theorem fun_at {w : World} {b E bw m : Nat} (h : w.heap[b]? = some (.cells (funL bw).toArray E (0, 0))) (h1 : 1 ≤ m) (h7 : m ≤ 7) : w.cell? ⟨b, 0 + m * 1, none⟩ = some (fnV (fnOf m) bw) := by
 rw [Nat.zero_add]
 exact cell_nth h (fnOf_at m bw h1 h7)
theorem fnOf_call (m : Nat) (h1 : 1 ≤ m) (h7 : m ≤ 7) : ∀ (xs : Array Value) w, (callFunc (fnOf m) xs).run Tryz.prog w = .ok (.enter (fnOf m) xs) w := by
 rcases (by omega : m = 1 ∨ m = 2 ∨ m = 3 ∨ m = 4 ∨ m = 5 ∨ m = 6 ∨ m = 7) with rfl | rfl | rfl | rfl | rfl | rfl | rfl
 ·exact call96
 ·exact call97
 ·exact call98
 ·exact call98
 ·exact call99
 ·exact call100
 ·exact call101
section
variable {n0 : Nat}

theorem wstmt_any (s : Sm) (m : Nat) (hm : s.k = (m : Int)) (d : Nat) (hd : d ≤ 64) (hR : rightS s d = true) (hok : OkS s) (oe ob ol : Option Addr) (ce cb cl : Nat) (bw : Nat) (v : Value) (F : List UInt8) (w : World) (hse : ExRow w (· < n0) oe s.e) (hsb : SmRow w (· < n0) ob s.body) (hsl : SmRow w (· < n0) ol s.els) (hW : Wr 5 n0 80 bw v F w) (hn0 : n0 ≤ w.heap.size) (h0 : 0 < n0) (hsg : Sig w) (hlx : (txX s.e).length ≤ 1099511627776) (hrec : ∀ (l : List Sm), (l = s.body ∨ l = s.els) → ∀ (bw : Nat) (v : Value) (F : List UInt8) (oa : Option Addr) (cap : Nat) (w : World), SmRow w (· < n0) oa l → Wr 5 n0 80 bw v F w → n0 ≤ w.heap.size → Sig w → d < 64 →
      Ret Tryz.prog 41 [.pointer (some ⟨bw, 0, none⟩), .slice oa l.length cap, .int .i64 ((d + 1 : Nat) : Int)] w fun r w' => r = .tuple #[] ∧ WrP 5 n0 80 bw v (F ++ txtSs l (d + 1)) w w') :
  Ret Tryz.prog (fnOf m) ([.pointer (some ⟨bw, 0, none⟩)] ++ [.agg (smL s oe ob ol ce cb cl).toArray, .int .i64 (d : Int)] ++ []) w fun r w' => r = .tuple #[] ∧ WrP 5 n0 80 bw v (F ++ txtS s d) w w' := by
 obtain ⟨⟨r1, r1b⟩, -⟩ := rightS_iff.1 hR
 rcases (by omega : m = 1 ∨ m = 2 ∨ m = 3 ∨ m = 4 ∨ m = 5 ∨ m = 6 ∨ m = 7) with rfl | rfl | rfl | rfl | rfl | rfl | rfl
 ·exact wassign_any s hm d hd hR hok oe ob ol ce cb cl bw v F w hse hW hn0 h0 hsg hlx
 ·exact wswap_any s hm d hd hR hok oe ob ol ce cb cl bw v F w hse hW hn0 h0 hsg hlx
 ·exact wcond_any s (.inl hm) d hd hR hok oe ob ol ce cb cl bw v F w hse hsb hsl hW hn0 h0 hsg hlx hrec
 ·exact wcond_any s (.inr hm) d hd hR hok oe ob ol ce cb cl bw v F w hse hsb hsl hW hn0 h0 hsg hlx hrec
 ·exact wlock_any s hm d hd hR hok oe ob ol ce cb cl bw v F w hse hsb hsl hW hn0 h0 hsg hlx hrec
 ·exact wprintS_any s hm d hd hR hok oe ob ol ce cb cl bw v F w hse hW hn0 h0 hsg hlx
 ·exact wskip_any s hm d hd oe ob ol ce cb cl bw v F w hW hn0
set_option maxHeartbeats 1000000 in
theorem wblock_any : ∀ (n : Nat) (ss : List Sm), szo ss = n → ∀ (d : Nat), d ≤ 64 → rightSs ss d = true → OkSs ss → (txtSs ss d).length ≤ 1099511627776 → ∀ (bw : Nat) (v : Value) (F : List UInt8) (oa : Option Addr) (cap : Nat) (w : World), SmRow w (· < n0) oa ss → Wr 5 n0 80 bw v F w → n0 ≤ w.heap.size → 0 < n0 → Sig w →
    Ret Tryz.prog 41 [.pointer (some ⟨bw, 0, none⟩), .slice oa ss.length cap, .int .i64 (d : Int)] w fun r w' => r = .tuple #[] ∧ WrP 5 n0 80 bw v (F ++ txtSs ss d) w w' := by
 intro n
 refine Nat.strongRecOn n fun n ih => ?_
 intro ss hn d hd hR hok hlen bw v F oa cap w hr hW hn0 h0 hsg
 subst hn
 have hssl := hok.1
 refine ret_of [_, _, _] func41 rfl ntmps41 rfl ?_
 have st := St.init w []
 clear st
 obtain ⟨w0, rfl⟩ : ∃ w0, w0 = w := ⟨_, rfl⟩
 have st := St.wrInit hW
 have hsame : ∀ {w1 : World}, Chg (bw :: v.ownBlock.toList) w0 w1 → Same (· < n0) w0 w1 := fun c => hW.same c
 refine sr ?_
 refine ym ?_
 refine vy (y_mf [_] [] rfl rfl) ?_
 refine ym ?_
 refine vy (y_mf [_] [] rfl rfl) ?_
 refine ym ?_
 refine vy (y_mf [_] [] rfl rfl) ?_
 refine ym ?_
 refine vy (y_mf [_] [] rfl rfl) ?_
 refine ym ?_
 refine vy (y_mf [_] [] rfl rfl) ?_
 refine ym ?_
 refine vy (y_mf [_] [] rfl rfl) ?_
 refine ym ?_
 refine vy (y_mf [_] [] rfl rfl) ?_
 refine vy (ybd (.agg #[_, _, _, _, _, _, _, _]) [(1, _), (2, _), (3, _), (4, _), (5, _), (6, _), (7, _)]) ?_
 refine vc_e (e_al (l := [_, _, _, _, _, _, _, _]) st rfl rfl zeroValue134 rfl ?_)
 intro b6 w hb6 st
 refine vc_e (ests st 0 [_, _, _, _, _, _, _, _] sizeOf134 ?_)
 intro w st; dsimp only [setNth, wr] at st
 refine et (vk4 0 1 2 6 (sr ?_))
 refine ym ?_
 refine vy (y_lensl rfl underlying65) ?_
 refine ym ?_
 refine et (vk6 0 2 6 24 25 26 (vc_block ?_))
 refine vc_loop (w0 := w0) (M := (bw :: v.ownBlock.toList)) (fun (x : Nat × Value) => [(0, .pointer (some ⟨bw, 0, none⟩)), (2, .int .i64 (d : Int)), (6, .pointer (some ⟨b6, 0, none⟩)), (24, .slice oa ss.length cap), (25, .int .i64 (ss.length : Int)), (26, .int .i64 (x.1 : Int))]) (fun x => [.blk b6 (.cells (funL bw).toArray 134 (0, 0)), wrR (bw :: v.ownBlock.toList) w0.heap.size 5 n0 80 bw x.2 (F ++ txtSs (ss.take x.1) d)]) (fun x _ => x.1 ≤ ss.length) (fun x => ss.length - x.1) (0, v) ⟨rfl, rfl, rfl, rfl, rfl, rfl, trivial⟩ (by simpa [txtSs, funL, fnV] using st) (by simp) ?_
 clear st
 rintro ⟨j, v1⟩ w hj st
 dsimp only at *
 refine sr ?_
 refine vy (y_lss rfl rfl) ?_
 refine et (vk7 0 2 6 24 25 26 27 (vc_seq ?_))
 refine vif ?_ ?_
 ·intro hc27
  try simp only [dn] at hc27
  obtain ⟨s, hsj⟩ : ∃ s, ss[j]? = some s := ⟨_, List.getElem?_eq_getElem (by omega)⟩
  obtain ⟨gb, go, rfl, hgS, hgl, hg⟩ := SmRow.at hr (by omega)
  obtain ⟨oe, ob, ol, ce, cb, cl, hsV, hse, hsb, hsl, hc⟩ := hg j s hsj
  have hks := hok.2 j s hsj
  have hz := mem_size hsj
  have hB : szo s.body < szo ss := by have := (sm_kids s).1; omega
  have hL : szo s.els < szo ss := by have := (sm_kids s).2; omega
  have hRs := rightSs_get hR hsj
  have hRi := rightS_iff.1 hRs
  have hk17 := hRi.1
  have hts := txtS_le (d := d) hsj
  have htx := txX_le hRs
  obtain ⟨m, hm⟩ : ∃ m : Nat, s.k = (m : Int) := ⟨s.k.toNat, by omega⟩
  refine kt (vk6 0 2 6 24 25 26 (vc_seq (vc_block (sr ?_))))
  refine vy (y_ia (k := j) rfl rfl underlying65 sizeOf67 rfl (by omega)) ?_
  refine vy (y_ldca (smL s oe ob ol ce cb cl) rfl isAgg67 sizeOf67 rfl (fun i v hi => st.chg.cell (hc i v hi) (hW.notin hgS))) ?_
  refine vc_e (e_al (l := [_, _, _, _, _, _, _]) st rfl rfl zeroValue67 rfl ?_)
  intro b8 w hb8 st
  refine vc_e (ests st 0 [_, _, _, _, _, _, _] sizeOf67 ?_)
  intro w st; dsimp only [setNth, wr] at st
  refine et (vk7 0 2 6 8 24 25 26 (vc_seq (sr ?_)))
  obtain ⟨lq, many, hb, ho, hws, hx1, hx2⟩ := st.wrGet (i := 2) rfl
  refine ym ?_
  refine ynk ?_
  refine yfz 1 underlying80 sizeOf4 ?_
  refine vy (y_ldc rfl isAgg4 (ptr_cell hb)) ?_
  refine et (vk8 0 2 6 8 24 25 26 33 ?_)
  refine vif ?_ ?_
  ·intro hc33
   try simp only [dn] at hc33
   refine vc_ret (vq_then_ret (vq_block_ret (vq_then_ret (vq_then_ret (vq_block_ret ?_)))))
   refine vq_ret0 (.inl rfl) results41 ?_
   refine ⟨_, rfl, ?_⟩
   refine ⟨rfl, ?_⟩
   have hm : many = true := by assumption
   subst hm
   rw [txtSs_split ss d j, ← List.append_assoc]
   exact (st.wrDone (i := 2) rfl).over hb
  intro hc33
  try simp only [dn] at hc33
  refine kt (vk7 0 2 6 8 24 25 26 ?_)
  refine vdr Tryz.mixed [Yt 0, Yt 1, Yt 2, Yt 3, Yt 4, Yt 5, Nt 6] [.blk b8 (.cells (smL s oe ob ol ce cb cl).toArray 67 (0, 0)), .blk b6 (.cells (funL bw).toArray 134 (0, 0))] st ?_
  clear st; intro w st hS
  refine pf0 hS underlying67 sizeOf64 ?_
  refine pld hS 0 isAgg64 ?_
  refine vp_take rfl rfl rfl hS (fun w st => y_iaa (k := m) rfl rfl underlying134 sizeOf133 hm (by omega)) ?_
  refine vp_take rfl rfl rfl hS (fun w st => y_ldc rfl isAgg133 (fun_at (st.res (i := 1) rfl) (by omega) (by omega))) ?_
  refine vp_take rfl rfl rfl hS (fun w st => y_lda (vs := [_, _, _, _, _, _, _]) st 0 rfl isAgg67 sizeOf67 rfl rfl) ?_
  refine pm hS ?_
  refine vp_do rfl (e_callv [_, _] rfl rfl rfl (fnOf_call m (by omega) (by omega)) rfl (wstmt_any s m hm d hd hRs hks oe ob ol ce cb cl bw _ _ _ (hse.kept (hsame st.chg)) (hsb.kept (hsame st.chg)) (hsl.kept (hsame st.chg)) (st.wrGet (i := 2) rfl) (Nat.le_trans hn0 st.chg.size) h0 (hsg.kept' st.chg (hW.notin h0)) (by omega) (fun l hl bw v F oa cap w hr hW hn hsg hd => ih (szo l) (by rcases hl with h | h <;> subst h <;> omega) l rfl (d + 1) (by omega) (by rcases hl with h | h <;> subst h; exact hRi.2.2.2.2.2.2.2.1; exact hRi.2.2.2.2.2.2.2.2) (by rcases hl with h | h <;> subst h; exact hks.body; exact hks.els) (by have := within_le hRs hl; omega) bw v F oa cap w hr hW hn h0 hsg)) ?_)
  rintro _ w ⟨rfl, hp⟩
  obtain ⟨v9, st⟩ := st.wr (i := 2) rfl hp
  dsimp only [setNth] at st
  refine vp_next st.dr ?_; intro hS
  refine vp_end (vq_block (vq_then (vk6 0 2 6 24 25 26 (vc_region ?_))))
  refine vy (y_add rfl rfl (by omega : _ = ((j + 1 : Nat) : Int)) (by omega) (by omega)) ?_
  refine ym ?_
  refine vc_end ?_
  refine vq_again (j + 1, v9)  ⟨rfl, rfl, rfl, rfl, rfl, rfl, trivial⟩ (by rw [txtSs_succ hsj, ← List.append_assoc]; exact st.dr) ?_ ?_
  ·dsimp only; omega
  dsimp only; omega
 intro hc27
 try simp only [dn] at hc27
 refine vc_exit (vq_then_exit (vq_then_exit (vq_block_exit ?_)))
 refine vq_ret0 (.inr rfl) results41 ?_
 refine ⟨_, rfl, ?_⟩
 refine ⟨rfl, ?_⟩
 obtain rfl : j = ss.length := by omega
 rw [List.take_length] at st
 exact st.wrDone (i := 1) rfl
end
end Go.Proofs.YtnmhlpnapgojjaaGreatDoor


namespace Go.Proofs.YtnmhlpnapgojjaaGreatDoor
open Go.RowKit Sx LexS _root_.Go.Proofs.Tryz
theorem Sig.pos {w : World} (h : Sig w) : 0 < w.heap.size := World.block_lt_of_cell? w _ (h 0 (by omega)).1
theorem thT_le {p : Pg} {j : Nat} {t : Th} (h : p.threads[j]? = some t) : (txtSs t.body 1).length ≤ (pgT p).length := by
 have h1 := pgT_le p (j + 1)
 rw [thsT_succ h] at h1
 unfold thT at h1
 simp at h1
 omega
set_option maxHeartbeats 2000000 in
theorem wprintP_any (p : Pg) (os ol ot : Option Addr) (cs cl ct : Nat) (w : World) (hS : DcRow w (· < w.heap.size) os p.shared) (hL : DcRow w (· < w.heap.size) ol p.locks) (hT : ThRow w (· < w.heap.size) ot p.threads) (hok : OkP p) (hsg : Sig w) (hlen : pgOk p = true → (pgT p).length ≤ 1099511627776) :
    Ret Tryz.prog 11 [.agg (pgL p os ol ot cs cl ct).toArray] w fun v w' => v = .tuple #[str (pgRes p).1, .int .i64 ((pgRes p).2 : Int)] ∧ Chg [] w w' := by
 refine ret_of [_] func11 rfl ntmps11 rfl ?_
 have st := St.init w []
 obtain ⟨w0, rfl⟩ : ∃ w0, w0 = w := ⟨_, rfl⟩
 have hn3 := hok.2.2.1
 have h0 := hsg.pos
 refine sr ?_
 refine vc_e (e_bx (l := [_, _, _]) st rfl rfl rfl rfl ?_)
 intro b1 w hb1 st
 iterate 2 refine ya ?_
 refine et (vk1 1 (vc_seq (sr ?_)))
 refine yla st 0 [_, _, _] isAgg26 sizeOf26 ?_
 refine vc_e (e_call [_] rfl rfl call38 rfl (right_any p _ _ _ _ _ _ _ (RowC.kept hS st.sm) (RowC.kept hL st.sm) (hT.kept st.sm) hok (hsg.kept st.chg)) ?_)
 rintro _ w ⟨rfl, cw⟩
 replace st := st.call0 cw
 refine vy (y_not rfl) ?_
 refine et (vk2 1 9 ?_)
 refine vif ?_ ?_
 ·intro hc9
  try simp only [dn] at hc9
  refine sr ?_
  iterate 2 refine ya ?_
  refine et (vk2 2 3 (vc_ret (vq_then_ret ?_)))
  refine vq_ret2 st (.inl rfl) results11 (.tmp rfl) (.tmp rfl) ?_
  refine ⟨_, rfl, ?_⟩
  refine ⟨?_, st.chg⟩
  rw [pgRes_no (by assumption)]; rfl
 intro hc9
 try simp only [dn] at hc9
 refine kt (vk1 1 (sr ?_))
 refine vy (ybd (.agg #[_, _]) []) ?_
 refine vc_e (e_bx (l := [_, _]) st rfl rfl rfl rfl ?_)
 intro b11 w hb11 st
 refine ya ?_
 refine et (vk2 1 4 (sr ?_))
 obtain ⟨bw, rfl⟩ : ∃ bw, bw = b11 := ⟨_, rfl⟩
 have hpo : pgOk p = true := by assumption
 replace hlen := hlen hpo
 obtain ⟨q1, q2, q3⟩ := pgOk_inv hpo
 replace st := st.wrNew (E := 5) (n0 := w0.heap.size) hb11 (Nat.le_refl _)
 refine ym ?_
 refine vy (y_fa0 rfl underlying26 rfl rfl sizeOf23 rfl) ?_
 refine yl st 1 isAgg23 ?_
 refine vc_e (e_call [_, _, _, _] rfl rfl call39 rfl (wdecls_any p.shared true q1 hok.1 [115, 104, 97, 114, 101, 100] (by simp) 0 (by omega) _ _ bw _ _ _ (RowC.kept hS st.sm) (st.wrGet (i := 0) rfl) st.chg.size) ?_)
 rintro _ w ⟨rfl, hp⟩
 obtain ⟨v9, st⟩ := st.wr (i := 0) rfl hp
 dsimp only [setNth] at st
 refine et (vk2 1 4 (sr ?_))
 refine ym ?_
 refine yfz 1 underlying26 sizeOf23 ?_
 refine yl st 1 isAgg23 ?_
 refine vc_e (e_call [_, _, _, _] rfl rfl call39 rfl (wdecls_any p.locks false q2 hok.2.1 [108, 111, 99, 107] (by simp) 0 (by omega) _ _ bw _ _ _ (RowC.kept hL st.sm) (st.wrGet (i := 0) rfl) st.chg.size) ?_)
 rintro _ w ⟨rfl, hp⟩
 obtain ⟨v9, st⟩ := st.wr (i := 0) rfl hp
 dsimp only [setNth] at st
 refine et (vk2 1 4 (vc_seq (sr ?_)))
 refine yfz 2 underlying26 sizeOf24 ?_
 refine yl st 1 isAgg24 ?_
 refine vy (y_lensl rfl underlying24) ?_
 refine ym ?_
 refine et (vk4 4 21 22 23 (vc_block ?_))
 refine vc_loop (w0 := w0) (M := []) (fun (x : Nat × Value) => [(4, .pointer (some ⟨bw, 0, none⟩)), (21, .slice ot p.threads.length ct), (22, .int .i64 (p.threads.length : Int)), (23, .int .i64 (x.1 : Int))]) (fun x => [wrR [] w0.heap.size 5 w0.heap.size 80 bw x.2 (pgH p ++ thsT (p.threads.take x.1))]) (fun x _ => x.1 ≤ p.threads.length) (fun x => p.threads.length - x.1) (0, v9) ⟨rfl, rfl, rfl, rfl, trivial⟩ (by simpa [thsT, pgH] using (st.dr : St w0 [] [wrR [] w0.heap.size 5 w0.heap.size 80 bw v9 _] w)) (by simp) ?_
 clear st
 rintro ⟨j, v1⟩ w hj st
 dsimp only at *
 refine sr ?_
 refine vy (y_lss rfl rfl) ?_
 refine et (vk5 4 21 22 23 24 (vc_seq ?_))
 refine vif ?_ ?_
 ·intro hc24
  try simp only [dn] at hc24
  have stK := st
  obtain ⟨t, htj⟩ : ∃ t, p.threads[j]? = some t := ⟨_, List.getElem?_eq_getElem (by omega)⟩
  obtain ⟨gb, go, rfl, hgS, hgl, hg⟩ := ThRow.at hT (by omega)
  obtain ⟨tl, tb, cll, cbb, htl, htb, hc⟩ := hg j t htj
  have hkt := hok.2.2.2 j t htj
  obtain ⟨t1, t2, t3⟩ := q3 j t htj
  have hnl := isName_le t1
  have htle := thT_le htj
  have st := stK
  clear stK
  refine kt (vk4 4 21 22 23 (vc_seq (vc_block (sr ?_))))
  refine vy (y_ia (k := j) rfl rfl underlying24 sizeOf69 rfl (by omega)) ?_
  refine vy (y_ldca (thL t tl tb cll cbb) rfl isAgg69 sizeOf69 rfl (fun i v hi => st.chg.cell (hc i v hi) (by simp))) ?_
  refine vc_e (e_al (l := [_, _, _, _]) st rfl rfl zeroValue69 rfl ?_)
  intro b6 w hb6 st
  refine vc_e (ests st 0 [_, _, _, _] sizeOf69 ?_)
  intro w st; dsimp only [setNth, wr] at st
  refine et (vk5 4 6 21 22 23 (sr ?_))
  refine ym ?_
  refine vy (y_fa0 rfl underlying69 rfl rfl sizeOf9 rfl) ?_
  refine yl st 0 isAgg9 ?_
  refine vc_e (e_bsn (l := [[116, 104, 114, 101, 97, 100, 32], t.nm, [32, 123]].map str) (E := 9) st [(0, _), (1, _), (2, _)] rfl rfl rfl (fun w => by simp [Instr.buildSlice, run_underlying underlying50, sizeOf9, zeroValue9, Instr.fill, newRow, newObj, Sem.run, go_sem]) ?_)
  intro b30 w hb30 st
  refine vc_e (e_call [_, _, _] rfl rfl call40 rfl (line_any repeat_any bw _ _ 0 (by omega) [[116, 104, 114, 101, 97, 100, 32], t.nm, [32, 123]] (by simp) (by simp; try omega) b30 _ _ (st.wrGet (i := 2) rfl) st.chg.size (fun j x hx => cell_nth (st.res (i := 0) rfl) (strs_nth hx)) (fun hk => apart_nth st.nodup (i := 0) (j := 2) (by decide) rfl rfl _ (.head _) hk)) ?_)
  rintro _ w ⟨rfl, hp⟩
  obtain ⟨v9, st⟩ := st.wr (i := 2) rfl hp
  dsimp only [setNth] at st
  refine et (vk5 4 6 21 22 23 (sr ?_))
  refine ym ?_
  refine yfz 1 underlying69 sizeOf23 ?_
  refine yl st 1 isAgg23 ?_
  refine vc_e (e_call [_, _, _, _] rfl rfl call39 rfl (wdecls_any t.locals false t2 hkt.1 [108, 111, 99, 97, 108] (by simp) 1 (by omega) _ _ bw _ _ _ (RowC.kept htl st.sm) (st.wrGet (i := 2) rfl) st.chg.size) ?_)
  rintro _ w ⟨rfl, hp⟩
  obtain ⟨v9, st⟩ := st.wr (i := 2) rfl hp
  dsimp only [setNth] at st
  refine et (vk5 4 6 21 22 23 (sr ?_))
  refine ym ?_
  refine yfz 2 underlying69 sizeOf65 ?_
  refine yl st 1 isAgg65 ?_
  refine vc_e (e_call [_, _, _] rfl rfl call41 rfl (wblock_any _ t.body rfl 1 (by omega) t3 hkt.2.1 (by omega) bw _ _ _ _ _ (htb.kept st.sm) (st.wrGet (i := 2) rfl) st.chg.size h0 (hsg.kept st.chg)) ?_)
  rintro _ w ⟨rfl, hp⟩
  obtain ⟨v9, st⟩ := st.wr (i := 2) rfl hp
  dsimp only [setNth] at st
  refine et (vk4 4 21 22 23 (vc_region ?_))
  refine ym ?_
  refine vc_e (e_bsn (l := [[125]].map str) (E := 9) st [(0, _)] rfl rfl rfl (fun w => by simp [Instr.buildSlice, run_underlying underlying50, sizeOf9, zeroValue9, Instr.fill, newRow, newObj, Sem.run, go_sem]) ?_)
  intro b41 w hb41 st
  refine vc_e (e_call [_, _, _] rfl rfl call40 rfl (line_any repeat_any bw _ _ 0 (by omega) [[125]] (by simp) (by simp; try omega) b41 _ _ (st.wrGet (i := 3) rfl) st.chg.size (fun j x hx => cell_nth (st.res (i := 0) rfl) (strs_nth hx)) (fun hk => apart_nth st.nodup (i := 0) (j := 3) (by decide) rfl rfl _ (.head _) hk)) ?_)
  rintro _ w ⟨rfl, hp⟩
  obtain ⟨v9, st⟩ := st.wr (i := 3) rfl hp
  dsimp only [setNth] at st
  refine vc_end (vq_block (vq_then (vk4 4 21 22 23 (vc_region ?_))))
  refine vy (y_add rfl rfl (by omega : _ = ((j + 1 : Nat) : Int)) (by omega) (by omega)) ?_
  refine ym ?_
  refine vc_end ?_
  refine vq_again (j + 1, v9)  ⟨rfl, rfl, rfl, rfl, trivial⟩ (by rw [thsT_succ htj]; unfold thT; simpa [List.append_assoc, mar] using st.pick [3] rfl (by decide)) ?_ ?_
  ·dsimp only; omega
  dsimp only; omega
 intro hc24
 try simp only [dn] at hc24
 obtain rfl : j = p.threads.length := by omega
 rw [List.take_length, ← pgT_eq] at st
 obtain ⟨l2, many2, hb2, ho2, hws2, -, -⟩ := st.wrGet (i := 0) rfl
 obtain ⟨oq, cq, hvq⟩ := slice_form ho2
 subst hvq
 refine vc_exit (vq_then_exit (vq_then_exit (vq_block_exit (vq_then (vk1 4 (vc_seq (sr ?_)))))))
 refine ym ?_
 refine ynk ?_
 refine yfz 1 underlying80 sizeOf4 ?_
 refine vy (y_ldc rfl isAgg4 (ptr_cell hb2)) ?_
 refine et (vk2 4 47 ?_)
 refine vif ?_ ?_
 intro hc47
 try simp only [dn] at hc47
 refine sr ?_
 iterate 2 refine ya ?_
 refine et (vk2 2 3 (vc_ret (vq_then_ret ?_)))
 rotate_left
 intro hc47
 try simp only [dn] at hc47
 refine kt (vk1 4 (sr ?_))
 refine ym ?_
 refine ynk ?_
 refine vy (y_fa0 rfl underlying80 rfl rfl sizeOf78 rfl) ?_
 refine vy (y_ldc rfl isAgg78 (cell_nth (l := [_, _]) hb2 rfl)) ?_
 refine vy (y_b2s rfl (p := l2) (own_rdp ho2) rfl underlying78 underlying5 underlying9) ?_
 iterate 2 refine ya ?_
 refine et (vk2 2 3 (vc_ret ?_))
 all_goals
  refine vq_ret2 st (.inl rfl) results11 (.tmp rfl) (.tmp rfl) ?_
  refine ⟨_, rfl, ?_⟩
  refine ⟨?_, st.chg⟩
  first
   | (have hm : many2 = true := by assumption
      subst hm
      rw [pgRes_long hpo (WS.long hws2)]; rfl)
   | (have hm : many2 = false := by assumption
      subst hm
      obtain ⟨h1, h2⟩ := WS.yes hws2
      subst h1
      rw [pgRes_ok hpo h2]; rfl)
end Go.Proofs.YtnmhlpnapgojjaaGreatDoor


/- Trees with each name and place turned: no program in sight. -/
namespace LexS
open Sx
section
variable (g : List UInt8 → List UInt8) (h : Int → Int)
mutual
def trE : Ex → Ex
  | .mk k op wd nm kids a => .mk k op wd (g nm) (trEs kids) (h a)
termination_by structural e => e
def trEs : List Ex → List Ex
  | [] => []
  | e :: r => trE e :: trEs r
termination_by structural l => l
end
mutual
def trS : Sm → Sm
  | .mk k nm other e body els a => .mk k (g nm) (g other) (trEs g h e) (trSs body) (trSs els) (h a)
termination_by structural e => e
def trSs : List Sm → List Sm
  | [] => []
  | e :: r => trS e :: trSs r
termination_by structural l => l
end
def trD (d : Dc) : Dc := ⟨g d.nm, d.wd, h d.a⟩
def trT (t : Th) : Th := ⟨g t.nm, t.locals.map (trD g h), trSs g h t.body, h t.a⟩
def trP (p : Pg) : Pg := ⟨p.shared.map (trD g h), p.locks.map (trD g h), p.threads.map (trT g h)⟩
end
variable {g : List UInt8 → List UInt8} {h : Int → Int}
theorem trEs_map (l : List Ex) : trEs g h l = l.map (trE g h) := by
  induction l with
  | nil => rfl
  | cons x r ih => simp only [trEs, List.map_cons, ih]
theorem trSs_map (l : List Sm) : trSs g h l = l.map (trS g h) := by
  induction l with
  | nil => rfl
  | cons x r ih => simp only [trSs, List.map_cons, ih]
theorem trE_eq (e : Ex) : trE g h e = .mk e.k e.op e.wd (g e.nm) (trEs g h e.kids) (h e.a) := by cases e; rfl
theorem trS_eq (s : Sm) : trS g h s = .mk s.k (g s.nm) (g s.other) (trEs g h s.e) (trSs g h s.body) (trSs g h s.els) (h s.a) := by cases s; rfl
/-- the first 'j' turned -/
def mixL {α : Type} (f : α → α) (l : List α) (j : Nat) : List α := (l.take j).map f ++ l.drop j
theorem mixL_zero {α : Type} {f : α → α} (l : List α) : mixL f l 0 = l := by simp [mixL]
theorem mixL_all {α : Type} {f : α → α} (l : List α) : mixL f l l.length = l.map f := by simp [mixL]
theorem mixL_len {α : Type} {f : α → α} (l : List α) (j : Nat) : (mixL f l j).length = l.length := by simp [mixL]; omega
theorem mixL_get {α : Type} {f : α → α} {l : List α} {j : Nat} {x : α} (hx : l[j]? = some x) : (mixL f l j)[j]? = some x := by
  have hj := (List.getElem?_eq_some_iff.1 hx).1
  unfold mixL
  rw [List.getElem?_append_right (by simp; omega), List.length_map, List.length_take, Nat.min_eq_left (by omega), Nat.sub_self, List.getElem?_drop]
  exact hx
theorem mixL_step {α : Type} {f : α → α} {l : List α} {j : Nat} {x : α} (hx : l[j]? = some x) : (mixL f l j).set j (f x) = mixL f l (j + 1) := by
  obtain ⟨hj, e⟩ := List.getElem?_eq_some_iff.1 hx
  unfold mixL
  rw [List.set_append_right _ _ (by simp; omega), List.length_map, List.length_take, Nat.min_eq_left (by omega), Nat.sub_self, List.drop_eq_getElem_cons hj, List.set_cons_zero, List.take_succ_eq_append_getElem hj, e]
  simp
end LexS


/- The names of a tree: no program in sight. -/
namespace LexS
open Sx
mutual
def nmsE : Ex → List Wd
  | .mk k op wd nm kids a => (if k = 2 then [nm] else []) ++ nmsEs kids
termination_by structural e => e
def nmsEs : List Ex → List Wd
  | [] => []
  | e :: r => nmsE e ++ nmsEs r
termination_by structural l => l
end
mutual
def nmsS : Sm → List Wd
  | .mk k nm other e body els a => [nm, other] ++ nmsEs e ++ nmsSs body ++ nmsSs els
termination_by structural e => e
def nmsSs : List Sm → List Wd
  | [] => []
  | e :: r => nmsS e ++ nmsSs r
termination_by structural l => l
end
def nmsT (t : Th) : List Wd := [t.nm] ++ t.locals.map (·.nm) ++ nmsSs t.body
def nmsP (p : Pg) : List Wd := (p.shared ++ p.locks).map (·.nm) ++ p.threads.flatMap nmsT
theorem nmsEs_flat (l : List Ex) : nmsEs l = l.flatMap nmsE := by
  induction l with
  | nil => rfl
  | cons x r ih => simp only [nmsEs, List.flatMap_cons, ih]
theorem nmsSs_flat (l : List Sm) : nmsSs l = l.flatMap nmsS := by
  induction l with
  | nil => rfl
  | cons x r ih => simp only [nmsSs, List.flatMap_cons, ih]
theorem nmsE_eq (e : Ex) : nmsE e = (if e.k = 2 then [e.nm] else []) ++ nmsEs e.kids := by cases e; rfl
theorem nmsS_eq (s : Sm) : nmsS s = [s.nm, s.other] ++ nmsEs s.e ++ nmsSs s.body ++ nmsSs s.els := by cases s; rfl
/-- a name is taken in, if it is one -/
def addK (s : Wd) (ks : List Wd) : List Wd := if s = [] then ks else insK s ks
def addAll (l : List Wd) (ks : List Wd) : List Wd := l.foldl (fun ks s => addK s ks) ks
theorem addAll_nil (ks : List Wd) : addAll [] ks = ks := rfl
theorem addAll_cons (s : Wd) (l ks : List Wd) : addAll (s :: l) ks = addAll l (addK s ks) := rfl
theorem addAll_app (a b ks : List Wd) : addAll (a ++ b) ks = addAll b (addAll a ks) := by simp [addAll, List.foldl_append]
theorem flat_step {α : Type} {f : α → List Wd} {l : List α} {j : Nat} {x : α} (hx : l[j]? = some x) : (l.take (j + 1)).flatMap f = (l.take j).flatMap f ++ f x := by
  obtain ⟨hj, e⟩ := List.getElem?_eq_some_iff.1 hx
  rw [List.take_succ_eq_append_getElem hj, e, List.flatMap_append]; simp
theorem map_step {α : Type} {f : α → Wd} {l : List α} {j : Nat} {x : α} (hx : l[j]? = some x) : (l.take (j + 1)).map f = (l.take j).map f ++ [f x] := by
  obtain ⟨hj, e⟩ := List.getElem?_eq_some_iff.1 hx
  rw [List.take_succ_eq_append_getElem hj, e, List.map_append]; rfl
/-- the names of a tree, each once, in order -/
def namesL (p : Pg) : List Wd := (addAll (nmsP p) []).mergeSort (fun x y => decide (x ≤ y))
end LexS


namespace Go.Proofs.YtnmhlpnapgojjaaGreatDoor
open Go.RowKit Sx LexS _root_.Go.Proofs.Tryz
/-- where the closures of Names lie: the map, its box, the boxes of the three functions -/
structure NEnv where
 b : Nat
 bm : Nat
 bf : Nat
 be : Nat
 bs : Nat
namespace NEnv
def E (e : NEnv) : List Nat := [e.bm, e.bf, e.be, e.bs]
def pm (e : NEnv) : Value := .pointer (some ⟨e.bm, 0, none⟩)
def pf (e : NEnv) : Value := .pointer (some ⟨e.bf, 0, none⟩)
def pe (e : NEnv) : Value := .pointer (some ⟨e.be, 0, none⟩)
def ps (e : NEnv) : Value := .pointer (some ⟨e.bs, 0, none⟩)
structure ins (e : NEnv) (w : World) : Prop where
 m : w.heap[e.bm]? = some (.cells [.map (some e.b)].toArray 100 (0, 0))
 f : w.heap[e.bf]? = some (.cells [.func (.func 60) #[] [e.pm].toArray].toArray 101 (0, 0))
 l : w.heap[e.be]? = some (.cells [.func (.func 61) #[] [e.pf, e.pe].toArray].toArray 102 (0, 0))
 s : w.heap[e.bs]? = some (.cells [.func (.func 62) #[] [e.pf, e.pe, e.ps].toArray].toArray 103 (0, 0))
variable {e : NEnv} {w w' : World}
theorem ins.kept (h : e.ins w) (hk : ∀ b ∈ e.E, w'.heap[b]? = w.heap[b]?) : e.ins w' :=
 ⟨by rw [hk _ (by simp [E])]; exact h.m, by rw [hk _ (by simp [E])]; exact h.f, by rw [hk _ (by simp [E])]; exact h.l, by rw [hk _ (by simp [E])]; exact h.s⟩
theorem ins.loc : Sx.Loc e.E e.ins := fun a b _ hk h => h.kept hk
theorem ins.lt (h : e.ins w) : ∀ b ∈ e.E, b < w.heap.size := by
 intro b hb
 simp only [E, List.mem_cons, List.not_mem_nil, or_false] at hb
 rcases hb with rfl | rfl | rfl | rfl
 ·exact (Array.getElem?_eq_some_iff.1 h.m).1
 ·exact (Array.getElem?_eq_some_iff.1 h.f).1
 ·exact (Array.getElem?_eq_some_iff.1 h.l).1
 ·exact (Array.getElem?_eq_some_iff.1 h.s).1
end NEnv
theorem st_names {w : World} {e : NEnv} {ks : List Wd} (hM : MapK w e.b ks) (hE : e.ins w) (hd : e.b ∉ e.E) : St w [e.b] [.tree [e.b] (fun w => MapK w e.b ks), .tree e.E e.ins] w :=
 St.two (w := w) (φ := fun w => MapK w e.b ks) (ψ := e.ins) hM hE (by simpa using hM.lt) hE.lt (Loc_MapK _ _) NEnv.ins.loc (by simpa using hd)
section
variable {S : Nat → Prop}

theorem add_any (e : NEnv) (hd : e.b ∉ e.E) (s : Wd) (ks : List Wd) (w : World) (hM : MapK w e.b ks) (hE : e.ins w) :
    Ret Tryz.prog 60 ([] ++ [str s] ++ [e.pm]) w fun v w' => v = .tuple #[] ∧ MapK w' e.b (addK s ks) ∧ Chg [e.b] w w' := by
 refine ret_of [_, _] func60 rfl ntmps60 rfl ?_
 have st := St.init w [e.b]
 clear st
 obtain ⟨w0, rfl⟩ : ∃ w0, w0 = w := ⟨_, rfl⟩
 have st := st_names hM hE hd
 refine sr ?_
 refine ym ?_
 refine vy (y_nes rfl rfl) ?_
 refine et (vk3 0 1 4 ?_)
 refine vif ?_ ?_
 ·intro hc4
  try simp only [dn] at hc4
  refine vc_region ?_
  refine vy (y_ldc rfl isAgg100 (cell_nth (st.res (i := 1) rfl).1.m rfl)) ?_
  refine ym ?_
  refine vc_e (e_lk st 0 rfl rfl rfl rfl rfl underlying100 underlying9 zeroValue3 ?_)
  intro c7
  refine vy (y_addk rfl rfl rfl) ?_
  refine vc_e (e_mu st 0 rfl rfl rfl rfl rfl (by (left; simp)) underlying100 underlying9 ?_)
  intro w st; dsimp only [setNth] at st
  refine vc_end ?_
  refine vq_ret0 (.inr rfl) results60 ?_
  refine ⟨_, rfl, ?_⟩
  have hs : ¬ s = [] := by simpa using hc4
  unfold addK
  rw [if_neg hs]
  exact ⟨rfl, (st.res (i := 0) rfl).1, st.chg⟩
 intro hc4
 try simp only [dn] at hc4
 refine vc_code_skip ?_
 refine vq_ret0 (.inr rfl) results60 ?_
 refine ⟨_, rfl, ?_⟩
 have hs : s = [] := by simpa using hc4
 unfold addK
 rw [if_pos hs]
 exact ⟨rfl, (st.res (i := 0) rfl).1, st.chg⟩
set_option maxHeartbeats 1000000 in
theorem nel_any (e : NEnv) (hd : e.b ∉ e.E) (hS : ¬ S e.b) : ∀ (n : Nat) (es : List Ex), szo es = n → OkEs es → ∀ (oa : Option Addr) (cap : Nat) (ks : List Wd) (w : World), ExRow w S oa es → MapK w e.b ks → e.ins w →
    Ret Tryz.prog 61 ([] ++ [.slice oa es.length cap] ++ [e.pf, e.pe]) w fun v w' => v = .tuple #[] ∧ MapK w' e.b (addAll (nmsEs es) ks) ∧ Chg [e.b] w w' := by
 intro n
 refine Nat.strongRecOn n fun n ih => ?_
 intro es hn hok oa cap ks w hQ hM hE
 subst hn
 have hn := hok.1
 refine ret_of [_, _, _] func61 rfl ntmps61 rfl ?_
 have st := St.init w [e.b]
 clear st
 obtain ⟨w0, rfl⟩ : ∃ w0, w0 = w := ⟨_, rfl⟩
 have st := st_names hM hE hd
 refine sr ?_
 refine ym ?_
 refine vy (y_lensl rfl underlying40) ?_
 refine ym ?_
 refine et (vk5 1 2 6 7 8 (vc_block ?_))
 refine vc_loop (w0 := w0) (M := [e.b]) (fun (j : Nat) => [(6, .slice oa es.length cap), (1, e.pf), (2, e.pe), (7, .int .i64 (es.length : Int)), (8, .int .i64 (j : Int))]) (fun j => [.tree [e.b] (fun w => MapK w e.b (addAll ((es.take j).flatMap nmsE) ks)), .tree e.E e.ins]) (fun j _ => j ≤ es.length) (fun j => es.length - j) 0 ⟨rfl, rfl, rfl, rfl, rfl, trivial⟩ st (by omega) ?_
 clear st
 rintro j w hj st
 refine sr ?_
 refine vy (y_lss rfl rfl) ?_
 refine et (vk6 1 2 6 7 8 9 (vc_seq ?_))
 refine vif ?_ ?_
 ·intro hc9
  try simp only [dn] at hc9
  obtain ⟨x, hx⟩ : ∃ x, es[j]? = some x := ⟨_, List.getElem?_eq_getElem (by omega)⟩
  have hkx := hok.2 j x hx
  have hz := mem_size hx
  have hz2 : szo x.kids < szo es := by have := szo_kids x; omega
  have stK := st
  obtain ⟨gb, go, rfl, hgS, hgl, hg⟩ := ExRow.at hQ (by omega)
  obtain ⟨o0, c0, hV0, hr0, hc⟩ := hg j x hx
  have st := stK
  clear stK
  refine kt (vk5 1 2 6 7 8 (vc_seq (vc_block (sr ?_))))
  refine vy (y_ia (k := j) rfl rfl underlying40 sizeOf42 rfl (by omega)) ?_
  refine vy ((by exact y_ldca (exL x o0 c0) rfl isAgg42 sizeOf42 rfl (fun i v hi => st.chg.cell (hc i v hi) (by simp only [List.mem_singleton]; exact fun hh => hS (hh ▸ hgS))))) ?_
  refine vc_e (e_al (l := [_, _, _, _, _, _]) st rfl rfl zeroValue42 rfl ?_)
  intro b5 w hb5 st
  refine vc_e (ests st 0 [_, _, _, _, _, _] sizeOf42 ?_)
  intro w st; dsimp only [setNth, wr] at st
  refine et (vk6 1 2 5 6 7 8 (vc_seq (sr ?_)))
  refine vy (y_fa0 rfl underlying42 rfl rfl sizeOf38 rfl) ?_
  refine yl st 0 isAgg38 ?_
  refine vy (y_eqi rfl rfl) ?_
  refine et (vk7 1 2 5 6 7 8 14 ?_)
  refine vif ?_ ?_
  ·intro hc14
   try simp only [dn] at hc14
   refine vc_region ?_
   refine vy (y_ldc rfl isAgg101 (cell_nth (st.res (i := 2) rfl).1.f rfl)) ?_
   refine yfz 3 underlying42 sizeOf9 ?_
   refine yl st 0 isAgg9 ?_
   refine vc_e (e_callv [_] rfl rfl rfl call60 rfl (add_any e hd x.nm _ _ (st.res (i := 1) rfl).1 (st.res (i := 2) rfl).1) ?_)
   rintro _ w ⟨rfl, hm, hc⟩
   replace st := st.turn (i := 1) (r' := .tree [e.b] (fun w => MapK w e.b _)) rfl rfl rfl hc (by simp) ⟨hm, by simpa using hm.lt, Loc_MapK _ _⟩
   dsimp only [setNth] at st
   refine et (vk6 1 2 5 6 7 8 (vc_region ?_))
   refine vy (y_ldc rfl isAgg102 (cell_nth (st.res (i := 2) rfl).1.l rfl)) ?_
   refine yfz 4 underlying42 sizeOf40 ?_
   refine yl st 0 isAgg40 ?_
   refine vc_e (e_callv [_] rfl rfl rfl call61 rfl (ih _ hz2 x.kids rfl hkx.kids _ _ _ _ (hr0.kept (Same.of_chg st.chg (fun b hb => by simp only [List.mem_singleton]; exact fun hh => hS (hh ▸ hb)))) (st.res (i := 1) rfl).1 (st.res (i := 2) rfl).1) ?_)
   rintro _ w ⟨rfl, hm, hc⟩
   replace st := st.turn (i := 1) (r' := .tree [e.b] (fun w => MapK w e.b _)) rfl rfl rfl hc (by simp) ⟨hm, by simpa using hm.lt, Loc_MapK _ _⟩
   dsimp only [setNth] at st
   refine vc_end (vq_block (vq_then (vk5 1 2 6 7 8 (vc_region ?_))))
   refine vy (y_add rfl rfl (by omega : _ = ((j + 1 : Nat) : Int)) (by omega) (by omega)) ?_
   refine ym ?_
   refine vc_end ?_
   refine vq_again (j + 1)  ⟨rfl, rfl, rfl, rfl, rfl, trivial⟩ (by rw [flat_step hx, nmsE_eq, if_pos (by simpa using hc14), ← List.append_assoc, addAll_app, addAll_app]; exact st.pick [1, 2] rfl (by decide)) ?_ ?_
   ·omega
   omega
  intro hc14
  try simp only [dn] at hc14
  refine kt (vk6 1 2 5 6 7 8 (vc_region ?_))
  refine vy (y_ldc rfl isAgg102 (cell_nth (st.res (i := 2) rfl).1.l rfl)) ?_
  refine yfz 4 underlying42 sizeOf40 ?_
  refine yl st 0 isAgg40 ?_
  refine vc_e (e_callv [_] rfl rfl rfl call61 rfl (ih _ hz2 x.kids rfl hkx.kids _ _ _ _ (hr0.kept (Same.of_chg st.chg (fun b hb => by simp only [List.mem_singleton]; exact fun hh => hS (hh ▸ hb)))) (st.res (i := 1) rfl).1 (st.res (i := 2) rfl).1) ?_)
  rintro _ w ⟨rfl, hm, hc⟩
  replace st := st.turn (i := 1) (r' := .tree [e.b] (fun w => MapK w e.b _)) rfl rfl rfl hc (by simp) ⟨hm, by simpa using hm.lt, Loc_MapK _ _⟩
  dsimp only [setNth] at st
  refine vc_end (vq_block (vq_then (vk5 1 2 6 7 8 (vc_region ?_))))
  refine vy (y_add rfl rfl (by omega : _ = ((j + 1 : Nat) : Int)) (by omega) (by omega)) ?_
  refine ym ?_
  refine vc_end ?_
  refine vq_again (j + 1)  ⟨rfl, rfl, rfl, rfl, rfl, trivial⟩ (by rw [flat_step hx, nmsE_eq, if_neg (by simpa using hc14), List.nil_append, addAll_app]; exact st.pick [1, 2] rfl (by decide)) ?_ ?_
  ·omega
  omega
 intro hc9
 try simp only [dn] at hc9
 refine vc_exit (vq_then_exit (vq_then_exit (vq_block_exit ?_)))
 refine vq_ret0 (.inr rfl) results61 ?_
 refine ⟨_, rfl, ?_⟩
 obtain rfl : j = es.length := by omega
 rw [List.take_length, ← nmsEs_flat] at st
 exact ⟨rfl, (st.res (i := 0) rfl).1, st.chg⟩
set_option maxHeartbeats 1000000 in
theorem nsl_any (e : NEnv) (hd : e.b ∉ e.E) (hS : ¬ S e.b) : ∀ (n : Nat) (es : List Sm), szo es = n → OkSs es → ∀ (oa : Option Addr) (cap : Nat) (ks : List Wd) (w : World), SmRow w S oa es → MapK w e.b ks → e.ins w →
    Ret Tryz.prog 62 ([] ++ [.slice oa es.length cap] ++ [e.pf, e.pe, e.ps]) w fun v w' => v = .tuple #[] ∧ MapK w' e.b (addAll (nmsSs es) ks) ∧ Chg [e.b] w w' := by
 intro n
 refine Nat.strongRecOn n fun n ih => ?_
 intro es hn hok oa cap ks w hQ hM hE
 subst hn
 have hn := hok.1
 refine ret_of [_, _, _, _] func62 rfl ntmps62 rfl ?_
 have st := St.init w [e.b]
 clear st
 obtain ⟨w0, rfl⟩ : ∃ w0, w0 = w := ⟨_, rfl⟩
 have st := st_names hM hE hd
 refine sr ?_
 refine ym ?_
 refine vy (y_lensl rfl underlying65) ?_
 refine ym ?_
 refine et (vk6 1 2 3 7 8 9 (vc_block ?_))
 refine vc_loop (w0 := w0) (M := [e.b]) (fun (j : Nat) => [(7, .slice oa es.length cap), (1, e.pf), (2, e.pe), (3, e.ps), (8, .int .i64 (es.length : Int)), (9, .int .i64 (j : Int))]) (fun j => [.tree [e.b] (fun w => MapK w e.b (addAll ((es.take j).flatMap nmsS) ks)), .tree e.E e.ins]) (fun j _ => j ≤ es.length) (fun j => es.length - j) 0 ⟨rfl, rfl, rfl, rfl, rfl, rfl, trivial⟩ st (by omega) ?_
 clear st
 rintro j w hj st
 refine sr ?_
 refine vy (y_lss rfl rfl) ?_
 refine et (vk7 1 2 3 7 8 9 10 (vc_seq ?_))
 refine vif ?_ ?_
 ·intro hc10
  try simp only [dn] at hc10
  obtain ⟨x, hx⟩ : ∃ x, es[j]? = some x := ⟨_, List.getElem?_eq_getElem (by omega)⟩
  have hkx := hok.2 j x hx
  have hz := mem_size hx
  have hzB : szo x.body < szo es := by have : szo x.body < szo x := by cases x; exact sm_size.1
                                       omega
  have hzL : szo x.els < szo es := by have : szo x.els < szo x := by cases x; exact sm_size.2
                                      omega
  have stK := st
  obtain ⟨gb, go, rfl, hgS, hgl, hg⟩ := SmRow.at hQ (by omega)
  obtain ⟨oe, ob, ol, ce, cb, cl, hV, hse, hsb, hsl, hc⟩ := hg j x hx
  have st := stK
  clear stK
  refine kt (vk6 1 2 3 7 8 9 (vc_seq (vc_block (sr ?_))))
  refine vy (y_ia (k := j) rfl rfl underlying65 sizeOf67 rfl (by omega)) ?_
  refine vy ((by exact y_ldca (smL x oe ob ol ce cb cl) rfl isAgg67 sizeOf67 rfl (fun i v hi => st.chg.cell (hc i v hi) (by simp only [List.mem_singleton]; exact fun hh => hS (hh ▸ hgS))))) ?_
  refine vc_e (e_al (l := [_, _, _, _, _, _, _]) st rfl rfl zeroValue67 rfl ?_)
  intro b6 w hb6 st
  refine vc_e (ests st 0 [_, _, _, _, _, _, _] sizeOf67 ?_)
  intro w st; dsimp only [setNth, wr] at st
  refine et (vk7 1 2 3 6 7 8 9 (sr ?_))
  refine vy (y_ldc rfl isAgg101 (cell_nth (st.res (i := 2) rfl).1.f rfl)) ?_
  refine yfz 1 underlying67 sizeOf9 ?_
  refine yl st 0 isAgg9 ?_
  refine vc_e (e_callv [_] rfl rfl rfl call60 rfl (add_any e hd x.nm _ _ (st.res (i := 1) rfl).1 (st.res (i := 2) rfl).1) ?_)
  rintro _ w ⟨rfl, hm, hc⟩
  replace st := st.turn (i := 1) (r' := .tree [e.b] (fun w => MapK w e.b _)) rfl rfl rfl hc (by simp) ⟨hm, by simpa using hm.lt, Loc_MapK _ _⟩
  dsimp only [setNth] at st
  refine et (vk7 1 2 3 6 7 8 9 (sr ?_))
  refine vy (y_ldc rfl isAgg101 (cell_nth (st.res (i := 2) rfl).1.f rfl)) ?_
  refine yfz 2 underlying67 sizeOf9 ?_
  refine yl st 0 isAgg9 ?_
  refine vc_e (e_callv [_] rfl rfl rfl call60 rfl (add_any e hd x.other _ _ (st.res (i := 1) rfl).1 (st.res (i := 2) rfl).1) ?_)
  rintro _ w ⟨rfl, hm, hc⟩
  replace st := st.turn (i := 1) (r' := .tree [e.b] (fun w => MapK w e.b _)) rfl rfl rfl hc (by simp) ⟨hm, by simpa using hm.lt, Loc_MapK _ _⟩
  dsimp only [setNth] at st
  refine et (vk7 1 2 3 6 7 8 9 (sr ?_))
  refine vy (y_ldc rfl isAgg102 (cell_nth (st.res (i := 2) rfl).1.l rfl)) ?_
  refine yfz 3 underlying67 sizeOf40 ?_
  refine yl st 0 isAgg40 ?_
  refine vc_e (e_callv [_] rfl rfl rfl call61 rfl (nel_any e hd hS _ x.e rfl hkx.e _ _ _ _ (hse.kept (Same.of_chg st.chg (fun b hb => by simp only [List.mem_singleton]; exact fun hh => hS (hh ▸ hb)))) (st.res (i := 1) rfl).1 (st.res (i := 2) rfl).1) ?_)
  rintro _ w ⟨rfl, hm, hc⟩
  replace st := st.turn (i := 1) (r' := .tree [e.b] (fun w => MapK w e.b _)) rfl rfl rfl hc (by simp) ⟨hm, by simpa using hm.lt, Loc_MapK _ _⟩
  dsimp only [setNth] at st
  refine et (vk7 1 2 3 6 7 8 9 (sr ?_))
  refine vy (y_ldc rfl isAgg103 (cell_nth (st.res (i := 2) rfl).1.s rfl)) ?_
  refine yfz 4 underlying67 sizeOf65 ?_
  refine yl st 0 isAgg65 ?_
  refine vc_e (e_callv [_] rfl rfl rfl call62 rfl (ih _ hzB x.body rfl hkx.body _ _ _ _ (hsb.kept (Same.of_chg st.chg (fun b hb => by simp only [List.mem_singleton]; exact fun hh => hS (hh ▸ hb)))) (st.res (i := 1) rfl).1 (st.res (i := 2) rfl).1) ?_)
  rintro _ w ⟨rfl, hm, hc⟩
  replace st := st.turn (i := 1) (r' := .tree [e.b] (fun w => MapK w e.b _)) rfl rfl rfl hc (by simp) ⟨hm, by simpa using hm.lt, Loc_MapK _ _⟩
  dsimp only [setNth] at st
  refine et (vk7 1 2 3 6 7 8 9 (vc_region ?_))
  refine vy (y_ldc rfl isAgg103 (cell_nth (st.res (i := 2) rfl).1.s rfl)) ?_
  refine yfz 5 underlying67 sizeOf65 ?_
  refine yl st 0 isAgg65 ?_
  refine vc_e (e_callv [_] rfl rfl rfl call62 rfl (ih _ hzL x.els rfl hkx.els _ _ _ _ (hsl.kept (Same.of_chg st.chg (fun b hb => by simp only [List.mem_singleton]; exact fun hh => hS (hh ▸ hb)))) (st.res (i := 1) rfl).1 (st.res (i := 2) rfl).1) ?_)
  rintro _ w ⟨rfl, hm, hc⟩
  replace st := st.turn (i := 1) (r' := .tree [e.b] (fun w => MapK w e.b _)) rfl rfl rfl hc (by simp) ⟨hm, by simpa using hm.lt, Loc_MapK _ _⟩
  dsimp only [setNth] at st
  refine vc_end (vq_block (vq_then (vk6 1 2 3 7 8 9 (vc_region ?_))))
  refine vy (y_add rfl rfl (by omega : _ = ((j + 1 : Nat) : Int)) (by omega) (by omega)) ?_
  refine ym ?_
  refine vc_end ?_
  refine vq_again (j + 1)  ⟨rfl, rfl, rfl, rfl, rfl, rfl, trivial⟩ (by rw [flat_step hx, nmsS_eq, addAll_app, addAll_app, addAll_app, addAll_app]; exact st.pick [1, 2] rfl (by decide)) ?_ ?_
  ·omega
  omega
 intro hc10
 try simp only [dn] at hc10
 refine vc_exit (vq_then_exit (vq_then_exit (vq_block_exit ?_)))
 refine vq_ret0 (.inr rfl) results62 ?_
 refine ⟨_, rfl, ?_⟩
 obtain rfl : j = es.length := by omega
 rw [List.take_length, ← nmsSs_flat] at st
 exact ⟨rfl, (st.res (i := 0) rfl).1, st.chg⟩
end
end Go.Proofs.YtnmhlpnapgojjaaGreatDoor


namespace Go.Proofs.YtnmhlpnapgojjaaGreatDoor
open Go.RowKit Sx LexS _root_.Go.Proofs.Tryz
abbrev ExRQ := ExR 42
abbrev SmRQ := SmR 42 67
abbrev DcRQ := DcR 63
abbrev ThRQ := ThR 42 67 63 69
abbrev PgQ := PgS 42 67 63 69
theorem Tryz.info63 : Tryz.prog.info? 63 = some Tryz.t63 := by kernel_rfl
theorem Tryz.info42 : Tryz.prog.info? 42 = some Tryz.t42 := by kernel_rfl
theorem Tryz.info67 : Tryz.prog.info? 67 = some Tryz.t67 := by kernel_rfl
theorem Tryz.info69 : Tryz.prog.info? 69 = some Tryz.t69 := by kernel_rfl
theorem take_snoc {α : Type} {l : List α} {j : Nat} {x : α} (h : l[j]? = some x) : l.take (j + 1) = l.take j ++ [x] := by
 obtain ⟨hj, e⟩ := List.getElem?_eq_some_iff.1 h
 rw [List.take_succ_eq_append_getElem hj, e]
section
variable {n0 : Nat}

end
end Go.Proofs.YtnmhlpnapgojjaaGreatDoor


namespace Go.Proofs.YtnmhlpnapgojjaaGreatDoor
open Go.RowKit Sx LexS _root_.Go.Proofs.Tryz
theorem zeroCells_len (z : Array Value) (n : Nat) : (Builtin.zeroCells z n).size = n * z.size := by simp [Builtin.zeroCells]
section
variable {P : Program} {n : Fr} {L : List Oper} {Q : Exit → Act → World → Prop} {kn : Kn} {w0 w : World} {M : List Nat} {hs : List Res} {N : Act → World → Prop}
variable {d ty : Nat} {pos : String} {aft : Array Edge} {g : Option (Nat × Bool)}
/-- room for 'k' more on nothing -/
theorem e_appz (st : St w0 M hs w) {T U E size bytes k : Nat} {x y : Operand} {z : Value} {kk : Int} {ti : TypeInfo} (hw : gd L kn g = some true) (hd : okDst n (some d) = true)
    (hx : evO kn x = some (.slice none 0 0)) (hy : evO kn y = some (.int .i64 kk)) (hkk : kk = (k : Int)) (h0 : 0 < k)
  (ht : P.underlying T = some (.slice E)) (hu : P.underlying U = some (.int .i64)) (hinfo : P.info? E = some ti) (hz : ti.zero = some z) (hsize : ti.size = size) (hby : ti.bytes = bytes) (hzs : z.cells.size = size) (hsz : Nat.blt 0 size = true) (hb0 : Nat.blt 0 bytes = true)
  (hk : k * bytes ≤ 140737488355328)
  (next : ∀ b cap w', k ≤ cap → w0.heap.size ≤ b → St w0 M (.own (.slice (some ⟨b, 0, none⟩) 0 cap) E size 0 [] :: hs) w' → vN n N ((d, .slice (some ⟨b, 0, none⟩) k cap) :: kn) w') :
  vS P n L Q ⟨some d, .call ⟨.builtin .append, #[x, y], #[T, U]⟩, ty, pos, aft, g⟩ N kn w := by
 subst hkk hsize hby
 have hb0' : 0 < ti.bytes := by simpa [Nat.blt_eq] using hb0
 have hk1 : k ≤ k * ti.bytes := Nat.le_mul_of_pos_right k hb0'
 have hr := Lib.run_append_grow_zeros (P := P) w T U ty E ti z .i64 .i64 ht hu hinfo hz none 0 0 [] (run_firstCells_none w.drew ti.size 0 0 0) k h0 (by simpa [Nat.blt_eq] using hsz) (by omega) (by omega) (by omega)
  (growslice_fits (need := 0 + k) (old := 0) (by omega) (by rw [Nat.zero_add]; exact hk))
 have hge := grownCap_ge w (0 + k) 0 E
 have hle := grownCap_le_maxLen w (0 + k) 0 E (by unfold maxLen; omega)
 generalize grownCap w (0 + k) 0 E = cap at hr hge hle
 rw [Nat.zero_add] at hr hge
 obtain ⟨A, hA, hr⟩ : ∃ A : Array Value, A.size = cap * ti.size ∧ (Builtin.append_ #[T, U] ty #[.slice none 0 0, .int .i64 (k : Int)]).run P w = .ok (.slice (some ⟨w.heap.size, 0, none⟩) k cap) (w.drew.alloc (.cells A E)) := by
  refine ⟨_, ?_, hr⟩
  simp only [Array.size_append, zeroCells_len, hzs]
  rw [show ([] : List Value).toArray.size = 0 from rfl, Nat.zero_add, ← Nat.add_mul]
  congr 1; omega
 refine e_bi (w' := w.drew.alloc (.cells A E)) [.slice none 0 0, .int .i64 (k : Int)] hw hd (by simp [hx, hy]) (fun cs => ?_) (next w.heap.size cap _ hge st.chg.size (st.pushR (Chg.trans (Chg.drew w) (Chg.alloc w.drew _)) ⟨by simp, .inr ⟨w.heap.size, cap, A, rfl, st.chg.size, heap_alloc w.drew _, by omega, hle, hA, by simp⟩⟩ (by simp [Res.at?, Value.ownBlock])))
 simp only [builtin, Sem.run_bind, List.toArray, hr]
 rfl
end
theorem own_up {w : World} {a b E s n : Nat} {v : Value} {xs : List Value} (h : w.ownsRow a E s v n xs) (hab : b ≤ a) : w.ownsRow b E s v n xs :=
 ⟨h.1, h.2.imp id fun ⟨g, cap, cur, h1, h2, h3⟩ => ⟨g, cap, cur, h1, Nat.le_trans hab h2, h3⟩⟩
theorem own_ge {w : World} {a E s n : Nat} {v : Value} {xs : List Value} (h : w.ownsRow a E s v n xs) : ∀ k ∈ v.ownBlock.toList, a ≤ k := by
 rcases h.2 with ⟨rfl, _⟩ | ⟨g, cap, cur, rfl, h2, _⟩
 ·simp [Value.ownBlock]
 ·simpa [Value.ownBlock] using h2
abbrev slV (x : Option Addr × List Dc × Nat) : Value := .slice x.1 x.2.1.length x.2.2
abbrev DsF (xs : List (Option Addr × List Dc × Nat)) : List Dc := xs.flatMap fun x => x.2.1
theorem dsF_step {xs : List (Option Addr × List Dc × Nat)} {j : Nat} {x} (hx : xs[j]? = some x) : DsF (xs.take (j + 1)) = DsF (xs.take j) ++ x.2.1 := by
 obtain ⟨hj, e⟩ := List.getElem?_eq_some_iff.1 hx
 simp only [DsF]
 rw [List.take_succ_eq_append_getElem hj, e, List.flatMap_append]; simp
theorem dsF_le (xs : List (Option Addr × List Dc × Nat)) (j : Nat) : (DsF (xs.take j)).length ≤ (DsF xs).length := by
 have : DsF xs = DsF (xs.take j) ++ DsF (xs.drop j) := by rw [DsF, DsF, DsF, ← List.flatMap_append, List.take_append_drop]
 rw [this]; simp
theorem growD_any (k : Nat) (hk : k ≤ 4398046511104) (w : World) :
    Ret Tryz.prog 130 [.slice none 0 0, .int .i64 (k : Int)] w fun v w' => ∃ oa cap, v = .slice oa 0 cap ∧ w'.ownsRow w.heap.size 63 3 (.slice oa 0 cap) 0 [] ∧ Chg [] w w' := by
 refine ret_of [_, _] func130 rfl ntmps130 rfl ?_
 have st := St.init w []
 obtain ⟨w0, rfl⟩ : ∃ w0, w0 = w := ⟨_, rfl⟩
 refine sr ?_
 refine ya ?_
 refine et (vk2 0 1 (vc_seq (sr ?_)))
 refine ym ?_
 refine vy (y_lss rfl rfl) ?_
 refine et (vk3 0 1 6 ?_)
 refine vif ?_ ?_
 ·intro hc6
  exfalso; revert hc6; simp
 intro hc6
 try simp only [dn] at hc6
 refine kt (vk2 0 1 (vc_seq (sr ?_)))
 iterate 2 refine ym ?_
 refine vy (y_caps rfl underlying23) ?_
 refine ym ?_
 refine vy (y_lensl rfl underlying23) ?_
 iterate 2 refine vy (y_sub rfl rfl rfl (by omega) (by omega)) ?_
 refine ya ?_
 refine et (vk2 0 1 (sr ?_))
 refine ym ?_
 refine vy (y_gtr rfl rfl) ?_
 refine et (vk3 0 1 16 ?_)
 refine vif ?_ ?_
 ·intro hc16
  try simp only [dn] at hc16
  refine vc_region ?_
  iterate 2 refine ym ?_
  refine vy (y_caps rfl underlying23) ?_
  refine vy (y_slh (j := 0) rfl rfl underlying23 sizeOf63 rfl (by omega)) ?_
  refine ym ?_
  refine vc_e (e_appz st (k := k) (bytes := 32) rfl rfl rfl rfl (by omega) (by omega) underlying23 underlying3 Tryz.info63 rfl rfl rfl rfl rfl rfl (by omega) ?_)
  intro b22 cap22 w hc22 hb22 st
  refine ym ?_
  refine vy (y_lensl rfl underlying23) ?_
  refine vy (y_slh (j := 0) rfl rfl underlying23 sizeOf63 rfl (by omega)) ?_
  refine ya ?_
  refine et (vk1 0 (sr ?_))
  refine ym ?_
  refine ya ?_
  refine et (vk1 4 (vc_ret ?_))
  refine vr1 st results130 ?_
  exact ⟨_, _, rfl, st.res (i := 0) rfl, st.chg⟩
 intro hc16
 try simp only [dn] at hc16
 refine kt (vk1 0 (sr ?_))
 refine ym ?_
 refine ya ?_
 refine et (vk1 4 (vc_ret ?_))
 refine vr1 st results130 ?_
 exact ⟨_, _, rfl, ⟨by simp, .inl ⟨rfl, rfl⟩⟩, st.chg⟩
set_option maxHeartbeats 1000000 in
theorem concatD_any {S : Nat → Prop} (xs : List (Option Addr × List Dc × Nat)) (hn : (DsF xs).length ≤ 4398046511104) (hxl : xs.length ≤ 1024) (b c : Nat) (w : World) (hb : ∀ j x, xs[j]? = some x → w.cell? ⟨b, j * 1, none⟩ = some (slV x)) (hr : ∀ (j : Nat) x, xs[j]? = some x → DcRow w S x.1 x.2.1) :
    Ret Tryz.prog 63 [.slice (some ⟨b, 0, none⟩) xs.length c] w fun v w' => ∃ oa cap Sq, v = .slice oa (DsF xs).length cap ∧ DcRQ w' oa cap (DsF xs) Sq ∧ Nw w.heap.size Sq ∧ Chg [] w w' := by
 refine ret_of [_] func63 rfl ntmps63 rfl ?_
 have st := St.init w []
 obtain ⟨w0, rfl⟩ : ∃ w0, w0 = w := ⟨_, rfl⟩
 refine sr ?_
 refine ya ?_
 refine et (vk1 0 (sr ?_))
 refine ya ?_
 refine et (vk2 0 3 (vc_seq (sr ?_)))
 refine ym ?_
 refine vy (y_lensl rfl underlying153) ?_
 refine ym ?_
 refine et (vk5 0 3 9 10 11 (vc_block ?_))
 refine vc_loop (w0 := w0) (M := []) (fun (j : Nat) => [(0, .slice (some ⟨b, 0, none⟩) xs.length c), (3, .int .i64 ((DsF (xs.take j)).length : Int)), (9, .slice (some ⟨b, 0, none⟩) xs.length c), (10, .int .i64 (xs.length : Int)), (11, .int .i64 (j : Int))]) (fun _ => []) (fun j _ => j ≤ xs.length) (fun j => xs.length - j) 0 ⟨rfl, rfl, rfl, rfl, rfl, trivial⟩ st (by omega) ?_
 clear st
 rintro j w hj st
 refine sr ?_
 refine vy (y_lss rfl rfl) ?_
 refine et (vk6 0 3 9 10 11 12 (vc_seq ?_))
 refine vif ?_ ?_
 ·intro hc12
  try simp only [dn] at hc12
  obtain ⟨x, hx⟩ : ∃ x, xs[j]? = some x := ⟨_, List.getElem?_eq_getElem (by omega)⟩
  have hle := dsF_le xs (j + 1)
  rw [dsF_step hx, List.length_append] at hle
  refine kt (vk5 0 3 9 10 11 (vc_seq (vc_block (sr ?_))))
  refine vy (y_ia0 (k := j) rfl rfl underlying153 sizeOf23 rfl (by omega)) ?_
  refine vy (y_ldc rfl isAgg23 (st.chg.cell (hb j x hx) (by simp))) ?_
  refine ya ?_
  refine et (vk6 0 3 5 9 10 11 (sr ?_))
  iterate 2 refine ym ?_
  refine vy (y_lensl rfl underlying23) ?_
  refine vy (y_add rfl rfl (by rw [dsF_step hx, List.length_append]; omega : _ = ((DsF (xs.take (j + 1))).length : Int)) (by rw [dsF_step hx, List.length_append]; omega) (by rw [dsF_step hx, List.length_append]; omega)) ?_
  refine ya ?_
  refine et (vk5 0 3 9 10 11 (sr ?_))
  refine ym ?_
  refine vy (y_lss rfl rfl) ?_
  refine et (vk6 0 3 9 10 11 20 ?_)
  refine vif ?_ ?_
  ·intro hc20
   exfalso; revert hc20; simp
  intro hc20
  try simp only [dn] at hc20
  refine vc_code_skip (vq_block (vq_then (vk5 0 3 9 10 11 (vc_region ?_))))
  refine vy (y_add rfl rfl (by omega : _ = ((j + 1 : Nat) : Int)) (by omega) (by omega)) ?_
  refine ym ?_
  refine vc_end ?_
  refine vq_again (j + 1)  ⟨rfl, rfl, rfl, rfl, rfl, trivial⟩ st ?_ ?_
  ·omega
  omega
 intro hc12
 try simp only [dn] at hc12
 obtain rfl : j = xs.length := by omega
 rw [List.take_length]
 refine vc_exit (vq_then_exit (vq_then_exit (vq_block_exit (vq_then (vk2 0 3 (sr ?_))))))
 refine ym ?_
 refine vc_e (e_call [_, _] rfl rfl call130 rfl (growD_any (DsF xs).length hn _) ?_)
 rintro _ w ⟨oa0, cap0, rfl, ho, hc⟩
 replace st := st.pushR (r := .own (.slice oa0 0 cap0) 63 3 0 []) hc (own_up ho st.chg.size) (own_ge ho)
 refine ya ?_
 refine et (vk2 0 6 (vc_seq (sr ?_)))
 refine ym ?_
 refine vy (y_lensl rfl underlying153) ?_
 refine ym ?_
 refine et (vk4 6 25 26 27 (vc_block ?_))
 refine vc_loop (w0 := w0) (M := []) (fun (z : Nat × Option Addr × Nat) => [(6, .slice z.2.1 (DsF (xs.take z.1)).length z.2.2), (25, .slice (some ⟨b, 0, none⟩) xs.length c), (26, .int .i64 (xs.length : Int)), (27, .int .i64 (z.1 : Int))]) (fun z => [.own (.slice z.2.1 (DsF (xs.take z.1)).length z.2.2) 63 3 (DsF (xs.take z.1)).length ((DsF (xs.take z.1)).flatMap dcL)]) (fun z _ => z.1 ≤ xs.length) (fun z => xs.length - z.1) (0, oa0, cap0) ⟨rfl, rfl, rfl, rfl, trivial⟩ st (by omega) ?_
 clear st
 rintro ⟨j, o1, c1⟩ w hj st
 dsimp only at *
 refine sr ?_
 refine vy (y_lss rfl rfl) ?_
 refine et (vk5 6 25 26 27 28 (vc_seq ?_))
 refine vif ?_ ?_
 ·intro hc28
  try simp only [dn] at hc28
  obtain ⟨x, hx⟩ : ∃ x, xs[j]? = some x := ⟨_, List.getElem?_eq_getElem (by omega)⟩
  have hle := dsF_le xs (j + 1)
  rw [dsF_step hx, List.length_append] at hle
  refine kt (vk4 6 25 26 27 (vc_seq (vc_block (sr ?_))))
  refine vy (y_ia0 (k := j) rfl rfl underlying153 sizeOf23 rfl (by omega)) ?_
  refine vy (y_ldc rfl isAgg23 (st.chg.cell (hb j x hx) (by simp))) ?_
  refine ya ?_
  refine et (vk5 6 8 25 26 27 (vc_region ?_))
  iterate 2 refine ym ?_
  refine vc_e (e_appr (bytes := 32) (len' := (DsF (xs.take (j + 1))).length) (ys := (DsF (xs.take (j + 1))).flatMap dcL) st 0 rfl rfl rfl rfl rfl (DcRow.rd (RowC.kept (hr j x hx) st.sm)) underlying23 Tryz.info63 rfl rfl rfl rfl rfl (dcs_len x.2.1) (dcs_one x.2.1) (by unfold maxLen; omega) (by omega) (by rw [dsF_step hx, List.length_append]) (by rw [dsF_step hx, List.flatMap_append]) ?_)
  intro o33 c33 w st; dsimp only [setNth] at st
  refine ya ?_
  refine vc_end (vq_block (vq_then (vk4 6 25 26 27 (vc_region ?_))))
  refine vy (y_add rfl rfl (by omega : _ = ((j + 1 : Nat) : Int)) (by omega) (by omega)) ?_
  refine ym ?_
  refine vc_end ?_
  refine vq_again (j + 1, o33, c33)  ⟨rfl, rfl, rfl, rfl, trivial⟩ st ?_ ?_
  ·dsimp only; omega
  dsimp only; omega
 intro hc28
 try simp only [dn] at hc28
 obtain rfl : j = xs.length := by omega
 rw [List.take_length] at st ⊢
 refine vc_exit (vq_then_exit (vq_then_exit (vq_block_exit (vq_then (vk1 6 (sr ?_))))))
 refine ym ?_
 refine ya ?_
 refine et (vk1 2 (vc_ret ?_))
 refine vr1 st results63 ?_
 exact ⟨o1, c1, _, rfl, ⟨(st.ownNw (i := 0) rfl).1, rfl⟩, (st.ownNw (i := 0) rfl).2, st.chg⟩
end Go.Proofs.YtnmhlpnapgojjaaGreatDoor


namespace Go.Proofs.YtnmhlpnapgojjaaGreatDoor
open Go.RowKit Sx LexS _root_.Go.Proofs.Tryz
abbrev sortW (l : List Wd) : List Wd := l.mergeSort (fun x y => decide (x ≤ y))
theorem sort_any (base : Nat) (ss : List Wd) (oa : Option Addr) (cap : Nat) (w : World) (hn : ss.length ≤ 4398046511104) (ho : w.ownsRow base 9 1 (.slice oa ss.length cap) ss.length (ss.map str)) :
    Ret Tryz.prog 64 [.slice oa ss.length cap] w fun v w' => v = .tuple #[] ∧ w'.ownsRow base 9 1 (.slice oa ss.length cap) ss.length ((sortW ss).map str) ∧ Chg (Value.slice oa ss.length cap).ownBlock.toList w w' := by
 rcases ho.2 with ⟨hnil, h0⟩ | ⟨g, cap', cur, hv, hbase, hb, h1, h2, h3, h4⟩
 ·have hs : ss = [] := List.length_eq_zero_iff.1 h0
  subst hs
  refine (Tryz.slices_Sort_string_none oa cap w).mono ?_
  rintro e w' ⟨rfl, rfl⟩
  exact ⟨_, rfl, rfl, by simpa [sortW] using ho, Chg.refl _ _⟩
 ·simp only [Value.slice.injEq] at hv
  obtain ⟨rfl, -, rfl⟩ := hv
  refine (Tryz.slices_Sort_string g 0 cap ss w (holds_of_block hb (by simpa using h4)) (Array.getElem?_eq_some_iff.1 hb).1 (by omega)).mono ?_
  rintro e w' ⟨rfl, n, os, rfl⟩
  exact ⟨_, rfl, rfl, ownsRow_sorted (by simp [sortW]) hbase hb h1 h2 h3, Chg.of_grownBy (grownBy_sorted _)⟩
end Go.Proofs.YtnmhlpnapgojjaaGreatDoor

