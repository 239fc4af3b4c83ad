/- A part of the proof: contracts of functions and plain laws; each theorem says its own conditions. -/
import Derived.Test.YtggnfanphcaamaaDoorQE
namespace Go.Proofs.YtggnfanphcaamaaDoor
open Go.RowKit Sx LexS ParS
set_option linter.unusedVariables false
set_option linter.unusedSimpArgs false
theorem Tryd.info83 : Tryd.prog.info? 83 = some Tryd.t83 := by kernel_rfl
/-- a row of statements -/
def HB (w : World) (l : List Sm) (v : Value) (w' : World) : Prop := ∃ oq cq Sq, v = .slice oq l.length cq ∧ SmR 26 83 w' oq cq l Sq ∧ Nw w.heap.size Sq
/-- a statement's value -/
def HS (w : World) (s : Sm) (v : Value) (w' : World) : Prop := ∃ oe ob ol ce cb cl Sq, v = .agg (smC s oe ob ol ce cb cl).toArray ∧ SmS 26 83 w' s (smC s oe ob ol ce cb cl) Sq ∧ Nw w.heap.size Sq
/-- a reader of blocks (of statements) that lie so deep -/
def BRead (fo : FuncId) (c : PCtx) (d : Nat) (F : List Tok → PR (List Sm)) : Prop := ∀ (r : List Tok) (hr : r <:+ c.ts) (w : World) (hC : PCok c w) (hP : PAt c r w), RetP Tryd.prog fo [.pointer (some ⟨c.pb, 0, none⟩), .int .i64 (d : Int)] w
    (PRes c r (F r) [c.pb] w (HB w)) (PErr c (F r) [c.pb] w)
def SRead (c : PCtx) (d : Nat) (F : List Tok → PR Sm) : Prop := ∀ (r : List Tok) (hr : r <:+ c.ts) (w : World) (hC : PCok c w) (hP : PAt c r w), RetP Tryd.prog 97 [.pointer (some ⟨c.pb, 0, none⟩), .int .i64 (d : Int)] w
    (PRes c r (F r) [c.pb] w (HS w)) (PErr c (F r) [c.pb] w)
theorem holds_sms {w : World} {base : Nat} {s : Sm} {l : List Value} {S : List Nat} (h : SmS 26 83 w s l S) : (Res.tree S fun w => SmS 26 83 w s l S).holds base w := holds_of h h.lt (fun a b h hk => h.kept hk)
theorem holds_smss {w : World} {base : Nat} {s : List Sm} {l : List Value} {S : List Nat} (h : SmSs 26 83 w s l S) : (Res.tree S fun w => SmSs 26 83 w s l S).holds base w := holds_of h h.lt (fun a b h hk => h.kept hk)
theorem blkP_want {e m : Nat} {r : List Tok} (h : isT [123] r = true → m ≠ 0) : blkP e m r = match want e [123] r with
    | .error f => .error f
    | .ok r1 => restW (stmtP e (m - 1)) (r1.length + 1) r1 := by
  cases m with
  | zero =>
    have hF : isT [123] r = false := by cases hc : isT [123] r with | false => rfl | true => exact absurd rfl (h hc)
    rw [want_neg hF]
    simp only [blkP, hF, Bool.false_eq_true, if_false]; rfl
  | succ m => rfl

set_option maxHeartbeats 1000000 in
theorem prest_of (c : PCtx) (hR : c.R = 65) (d m n : Nat) (hS : SRead c d (stmtP c.e m)) (r : List Tok) (hn : r.length < n) (hr : r <:+ c.ts) (w : World) (hC : PCok c w) (hP : PAt c r w) : RetP Tryd.prog 88 [.pointer (some ⟨c.pb, 0, none⟩), .int .i64 (d : Int)] w
    (PRes c r (restW (stmtP c.e m) n r) [c.pb] w (HB w)) (PErr c (restW (stmtP c.e m) n r) [c.pb] w) := by
  refine retp_of [_, _] Tryd.func88 rfl Tryd.ntmps88 rfl ?_
  
  obtain ⟨w0, rfl⟩ : ∃ w0, w0 = w := ⟨_, rfl⟩
  have hP' := hP
  dsimp only [PAt, pcell] at hP
  have st := St.of1 [c.pb] hP
  have h20 := hC.len
  have hl := suf_len hr
  have hs := contS_nil (stmtP c.e m) n r
  replace st := St.pushR (r := .tree [] (fun w => SmSs 26 83 w [] [] [])) st (Chg.refl _ _) (holds_smss (by simp [SmSs])) (by simp [Res.at?])
  replace st := st.ownNil 83 7
  refine vc_seq ?_
  refine vc_region ?_
  refine vc_y rfl rfl (y_as rfl) ?_
  refine vc_end ?_
  refine vq_then ?_
  refine vc_keep [(0, _), (1, _)] ⟨rfl, rfl, trivial⟩ ?_
  refine vc_seq ?_
  refine vc_region ?_
  refine vc_y rfl rfl (y_as rfl) ?_
  refine vc_end ?_
  refine vq_then ?_
  refine vc_keep [(0, _), (1, _), (5, _)] ⟨rfl, rfl, rfl, trivial⟩ ?_
  refine vc_seq ?_
  refine vc_block ?_
  refine vc_loop (w0 := w0) (M := [c.pb]) (fun (y : List Sm × List Tok × Nat × Option Addr × Nat × List Value × List Nat) => [(0, .pointer (some ⟨c.pb, 0, none⟩)), (1, .int .i64 (d : Int)), (5, .slice y.2.2.2.1 y.1.length y.2.2.2.2.1)]) (fun y => [.own (.slice y.2.2.2.1 y.1.length y.2.2.2.2.1) 83 7 y.1.length y.2.2.2.2.2.1, .tree y.2.2.2.2.2.2 (fun w => SmSs 26 83 w y.1 y.2.2.2.2.2.1 y.2.2.2.2.2.2), .blk c.pb (.cells (pcell c y.2.1).toArray c.T (0, 0))]) (fun y _ => y.2.1 <:+ r ∧ y.2.1.length + y.1.length ≤ r.length ∧ y.2.1.length < y.2.2.1 ∧ Nw w0.heap.size y.2.2.2.2.2.2 ∧ restW (stmtP c.e m) n r = contS (stmtP c.e m) y.2.2.1 y.1 y.2.1) (fun y => y.2.1.length) ([], r, n, none, 0, [], []) ⟨rfl, rfl, rfl, trivial⟩ st ⟨List.suffix_refl _, by simp, hn, Nw.nil, hs⟩ ?_
  clear st hs
  rintro ⟨acc, r1, k, oq, cq, xs, Sq⟩ w ⟨hsf1, hl1, hk1, hSq, hs⟩ st
  dsimp only at hsf1 hl1 hk1 hSq hs st
  have hr1 := hsf1.trans hr
  obtain ⟨k, rfl⟩ : ∃ j, k = j + 1 := ⟨k - 1, by omega⟩
  refine vc_seq ?_
  refine vc_seq ?_
  refine vc_region ?_
  refine vc_y rfl rfl (y_mv rfl) ?_
  refine vc_e (e_call [_, _] rfl rfl Tryd.call67 rfl (ptake_any c [125] r1 hr1 _ (hC.k1 st.chg) (by first | exact st.res (i := 0) rfl | exact st.res (i := 1) rfl | exact st.res (i := 2) rfl | exact st.res (i := 3) rfl | exact st.res (i := 4) rfl | exact st.res (i := 5) rfl | exact st.res (i := 6) rfl | exact st.res (i := 7) rfl | exact st.res (i := 8) rfl | exact st.res (i := 9) rfl)) ?_)
  rintro _ w ⟨rfl, hP1, cw⟩
  first
  | replace st := St.prs (b := c.pb) st 0 rfl cw (.inl (.head _)) hP1
  | replace st := St.prs (b := c.pb) st 1 rfl cw (.inl (.head _)) hP1
  | replace st := St.prs (b := c.pb) st 2 rfl cw (.inl (.head _)) hP1
  | replace st := St.prs (b := c.pb) st 3 rfl cw (.inl (.head _)) hP1
  | replace st := St.prs (b := c.pb) st 4 rfl cw (.inl (.head _)) hP1
  | replace st := St.prs (b := c.pb) st 5 rfl cw (.inl (.head _)) hP1
  | replace st := St.prs (b := c.pb) st 6 rfl cw (.inl (.head _)) hP1
  | replace st := St.prs (b := c.pb) st 7 rfl cw (.inl (.head _)) hP1
  | replace st := St.prs (b := c.pb) st 8 rfl cw (.inl (.head _)) hP1
  | replace st := St.prs (b := c.pb) st 9 rfl cw (.inl (.head _)) hP1
  dsimp only [setNth] at st
  refine vc_y rfl rfl (y_not rfl) ?_
  refine vc_end ?_
  refine vq_then ?_
  refine vc_keep [(0, _), (1, _), (5, _), (8, _)] ⟨rfl, rfl, rfl, rfl, trivial⟩ ?_
  refine vc_ifs rfl ?_ ?_
  · intro hc8
    try simp only [decide_eq_true_eq, decide_eq_false_iff_not, Bool.not_eq_true', Bool.not_eq_false', Bool.not_eq_true, Bool.not_eq_false, Int.not_lt, Int.not_le, Nat.not_lt, Nat.not_le, Bool.not_true, Bool.not_false, Bool.true_eq_false, Bool.false_eq_true] at hc8
    have hF : isT [125] r1 = false := by simpa using hc8
    simp only [hF, Bool.false_eq_true, if_false] at st
    rw [contS_step hF] at hs
    refine vc_code_skip ?_
    refine vq_then ?_
    refine vc_keep [(0, _), (1, _), (5, _)] ⟨rfl, rfl, rfl, trivial⟩ ?_
    refine vc_block ?_
    refine vc_region ?_
    refine vc_y rfl rfl (y_mv rfl) ?_
    refine vc_y rfl rfl (y_mv rfl) ?_
    refine vc_y rfl rfl (y_mv rfl) ?_
    refine vc_e (e_callp [_, _] rfl rfl Tryd.call97 rfl (hS r1 hr1 _ (hC.k1 st.chg) (by first | exact st.res (i := 0) rfl | exact st.res (i := 1) rfl | exact st.res (i := 2) rfl | exact st.res (i := 3) rfl | exact st.res (i := 4) rfl | exact st.res (i := 5) rfl | exact st.res (i := 6) rfl | exact st.res (i := 7) rfl | exact st.res (i := 8) rfl | exact st.res (i := 9) rfl)) (by rintro _ w' ⟨f, hf, rfl, ch⟩ a ha; exact And.intro ha (Or.inr ⟨_, rfl, f, by rw [hs, hf], rfl, st.chg.trans ch⟩)) ?_)
    rintro _ w ⟨s, r2, hx, hsfr2, hlnr2, hP1, cw, oe, ob, ol, ce, cb, cl, Ss, rfl, hQ, hN⟩
    have hNSs := hN.le st.chg.size
    first
    | replace st := St.prsT (b := c.pb) st 0 rfl cw (.inl (.head _)) hP1 (holds_sms hQ) hN.2
    | replace st := St.prsT (b := c.pb) st 1 rfl cw (.inl (.head _)) hP1 (holds_sms hQ) hN.2
    | replace st := St.prsT (b := c.pb) st 2 rfl cw (.inl (.head _)) hP1 (holds_sms hQ) hN.2
    | replace st := St.prsT (b := c.pb) st 3 rfl cw (.inl (.head _)) hP1 (holds_sms hQ) hN.2
    | replace st := St.prsT (b := c.pb) st 4 rfl cw (.inl (.head _)) hP1 (holds_sms hQ) hN.2
    | replace st := St.prsT (b := c.pb) st 5 rfl cw (.inl (.head _)) hP1 (holds_sms hQ) hN.2
    | replace st := St.prsT (b := c.pb) st 6 rfl cw (.inl (.head _)) hP1 (holds_sms hQ) hN.2
    | replace st := St.prsT (b := c.pb) st 7 rfl cw (.inl (.head _)) hP1 (holds_sms hQ) hN.2
    | replace st := St.prsT (b := c.pb) st 8 rfl cw (.inl (.head _)) hP1 (holds_sms hQ) hN.2
    | replace st := St.prsT (b := c.pb) st 9 rfl cw (.inl (.head _)) hP1 (holds_sms hQ) hN.2
    dsimp only [setNth] at st
    rw [hx] at hs; dsimp only at hs
    have h41 := hr.length_le
    refine vc_e (e_bs1 (l := [_, _, _, _, _, _, _]) st rfl rfl rfl rfl Tryd.underlying76 Tryd.sizeOf83 rfl rfl rfl Tryd.zeroValue83 ?_)
    intro b13 w hb13 st
    refine vc_e (e_app (bytes := 120) st 2 0 rfl rfl rfl rfl rfl rfl Tryd.underlying76 Tryd.info83 rfl rfl rfl rfl rfl (by simp) rfl rfl (by unfold maxLen; omega) (by omega) ?_)
    intro oaQ capQ w st; dsimp only [setNth] at st
    have hS2 := SmSs.snoc (st.res (i := 3) rfl).1 (st.res (i := 1) rfl).1
    have hN2 := hSq.app hNSs (st.ne (i := 3) (j := 1) (by decide) rfl rfl)
    replace st := ((st.pick [3, 1, 2, 4] rfl (by decide)).join (q := .tree (Sq ++ Ss) fun w => SmSs 26 83 w (acc ++ [s]) (xs ++ smC s oe ob ol ce cb cl) (Sq ++ Ss)) (fun k hk => List.mem_append.1 hk) (holds_smss hS2)).pick [1, 0, 2] rfl (by decide)
    refine vc_y rfl rfl (y_as rfl) ?_
    refine vc_end ?_
    refine vq_block ?_
    refine vq_again (acc ++ [s], r2, k, oaQ, capQ, xs ++ smC s oe ob ol ce cb cl, Sq ++ Ss)  (by refine ⟨rfl, rfl, ?_, trivial⟩; simp [find, put]) (by simpa using st) ?_ ?_
    · exact ⟨hsfr2.trans hsf1, by simp; omega, by dsimp only; omega, hN2, hs⟩
    · dsimp only; omega
  · intro hc8
    try simp only [decide_eq_true_eq, decide_eq_false_iff_not, Bool.not_eq_true', Bool.not_eq_false', Bool.not_eq_true, Bool.not_eq_false, Int.not_lt, Int.not_le, Nat.not_lt, Nat.not_le, Bool.not_true, Bool.not_false, Bool.true_eq_false, Bool.false_eq_true] at hc8
    have hT : isT [125] r1 = true := by simpa using hc8
    simp only [hT, if_true] at st
    rw [contS_end hT] at hs
    have ht := tail_lt (isT_ne hT)
    refine vc_exit ?_
    refine vq_then_exit ?_
    refine vq_then_exit ?_
    refine vq_block_exit ?_
    refine vq_then ?_
    refine vc_keep [(5, _)] ⟨rfl, trivial⟩ ?_
    refine vc_seq ?_
    refine vc_region ?_
    refine vc_y rfl rfl (y_mv rfl) ?_
    refine vc_y rfl rfl (y_as rfl) ?_
    refine vc_end ?_
    refine vq_then ?_
    refine vc_keep [(4, _)] ⟨rfl, trivial⟩ ?_
    refine vc_ret ?_
    refine vq_ret1 st (.inl rfl) Tryd.results88 (.tmp rfl) ?_
    refine .inl ⟨_, rfl, ?_⟩
    have hown := st.ownNw (i := 0) rfl
    exact ⟨acc, _, hs, (List.tail_suffix _).trans hsf1, by omega, (by first | exact st.res (i := 0) rfl | exact st.res (i := 1) rfl | exact st.res (i := 2) rfl | exact st.res (i := 3) rfl | exact st.res (i := 4) rfl | exact st.res (i := 5) rfl | exact st.res (i := 6) rfl | exact st.res (i := 7) rfl | exact st.res (i := 8) rfl | exact st.res (i := 9) rfl), st.chg, oq, cq, obk oq ++ Sq, rfl, ⟨xs, Sq, hown.1, rfl, (st.res (i := 1) rfl).1⟩, hown.2.app hSq (fun b hb => st.ne (i := 0) (j := 1) (by decide) rfl rfl b (by simpa [Res.at?, obk_own] using hb))⟩

theorem pblock_of (c : PCtx) (hR : c.R = 65) (d m : Nat) (hd : d + m = 64) (hB : ∀ k, m = k + 1 → SRead c (d + 1) (stmtP c.e k)) : BRead 118 c d (blkP c.e m) := by
  intro r hr w hC hP
  refine retp_of [_, _] Tryd.func118 rfl Tryd.ntmps118 rfl ?_
  
  obtain ⟨w0, rfl⟩ : ∃ w0, w0 = w := ⟨_, rfl⟩
  have hP' := hP
  dsimp only [PAt, pcell] at hP
  have st := St.of1 [c.pb] hP
  have h20 := hC.len
  have hl := suf_len hr
  refine vc_seq ?_
  refine vc_region ?_
  refine vc_y rfl rfl (y_as rfl) ?_
  refine vc_end ?_
  refine vq_then ?_
  refine vc_keep [(0, _), (1, _)] ⟨rfl, rfl, trivial⟩ ?_
  refine vc_seq ?_
  refine vc_seq ?_
  refine vc_region ?_
  refine vc_y rfl rfl (y_mv rfl) ?_
  refine vc_e (e_call [_, _] rfl rfl Tryd.call71 rfl (pis_any c [123] r hr _ (hC.k1 st.chg) (by first | exact st.res (i := 0) rfl | exact st.res (i := 1) rfl | exact st.res (i := 2) rfl | exact st.res (i := 3) rfl | exact st.res (i := 4) rfl | exact st.res (i := 5) rfl | exact st.res (i := 6) rfl | exact st.res (i := 7) rfl | exact st.res (i := 8) rfl | exact st.res (i := 9) rfl)) ?_)
  rintro _ w ⟨rfl, cw⟩
  replace st := st.call0 cw
  refine vc_e (e_mvb rfl rfl rfl ?_ ?_)
  · intro hg7
    try simp only [decide_eq_true_eq, decide_eq_false_iff_not, Bool.not_eq_true', Bool.not_eq_false', Bool.not_eq_true, Bool.not_eq_false, Int.not_lt, Int.not_le, Nat.not_lt, Nat.not_le, Bool.not_true, Bool.not_false, Bool.true_eq_false, Bool.false_eq_true] at hg7
    refine vc_y rfl rfl (y_mv rfl) ?_
    refine vc_y rfl rfl (y_eqi rfl rfl) ?_
    refine vc_y rfl rfl (y_pickt rfl rfl) ?_
    refine vc_end ?_
    refine vq_then ?_
    refine vc_keep [(0, _), (1, _), (10, _)] ⟨rfl, rfl, rfl, trivial⟩ ?_
    refine vc_ifs rfl ?_ ?_
    · intro hc10
      try simp only [decide_eq_true_eq, decide_eq_false_iff_not, Bool.not_eq_true', Bool.not_eq_false', Bool.not_eq_true, Bool.not_eq_false, Int.not_lt, Int.not_le, Nat.not_lt, Nat.not_le, Bool.not_true, Bool.not_false, Bool.true_eq_false, Bool.false_eq_true] at hc10
      have hd64 : d = 64 := by omega
      obtain rfl : m = 0 := by omega
      have hs : blkP c.e 0 r = fail c.e 3 r := by simp only [blkP]; rw [if_pos hg7]
      refine vc_region ?_
      refine vc_y rfl rfl (y_mv rfl) ?_
      refine vc_e (e_callp [_, _] rfl rfl Tryd.call30 rfl (pfail_any c 3 r hr _ (hC.k1 st.chg) (by first | exact st.res (i := 0) rfl | exact st.res (i := 1) rfl | exact st.res (i := 2) rfl | exact st.res (i := 3) rfl | exact st.res (i := 4) rfl | exact st.res (i := 5) rfl | exact st.res (i := 6) rfl | exact st.res (i := 7) rfl | exact st.res (i := 8) rfl | exact st.res (i := 9) rfl) hR) (by rintro _ w' ⟨rfl, ch⟩ a ha; exact And.intro ha (Or.inr ⟨_, rfl, (atT c.e r, 3), by rw [hs]; rfl, rfl, st.chg.trans ch.of_nil⟩)) (fun _ _ h => h.elim))
    · intro hc10
      try simp only [decide_eq_true_eq, decide_eq_false_iff_not, Bool.not_eq_true', Bool.not_eq_false', Bool.not_eq_true, Bool.not_eq_false, Int.not_lt, Int.not_le, Nat.not_lt, Nat.not_le, Bool.not_true, Bool.not_false, Bool.true_eq_false, Bool.false_eq_true] at hc10
      have hm0 : isT [123] r = true → m ≠ 0 := fun _ => by omega
      have hs := blkP_want (e := c.e) hm0
      refine vc_code_skip ?_
      refine vq_then ?_
      refine vc_keep [(0, _), (1, _)] ⟨rfl, rfl, trivial⟩ ?_
      refine vc_seq ?_
      refine vc_region ?_
      refine vc_y rfl rfl (y_mv rfl) ?_
      refine vc_e (e_bs1 (l := [_]) st rfl rfl rfl rfl Tryd.underlying50 Tryd.sizeOf9 rfl rfl rfl Tryd.zeroValue9 ?_)
      intro b14 w hb14 st
      refine vc_e (e_callp [_, _] rfl rfl Tryd.call81 rfl (pwant_any c [[123]] (by simp) _ _ _ _ rfl r hr _ (hC.k1 st.chg) (by first | exact st.res (i := 0) rfl | exact st.res (i := 1) rfl | exact st.res (i := 2) rfl | exact st.res (i := 3) rfl | exact st.res (i := 4) rfl | exact st.res (i := 5) rfl | exact st.res (i := 6) rfl | exact st.res (i := 7) rfl | exact st.res (i := 8) rfl | exact st.res (i := 9) rfl) hR (st.res (i := 0) rfl) (by first | exact st.bne 0 1 (by decide) rfl rfl | exact st.bne 0 2 (by decide) rfl rfl | exact st.bne 0 3 (by decide) rfl rfl | exact st.bne 0 4 (by decide) rfl rfl | exact st.bne 0 5 (by decide) rfl rfl | exact st.bne 0 6 (by decide) rfl rfl)) (by rintro _ w' ⟨f, hf, rfl, ch⟩ a ha; rw [wantL_one] at hf; exact And.intro ha (Or.inr ⟨_, rfl, f, by rw [hs, hf], rfl, st.chg.trans ch⟩)) ?_)
      rintro _ w ⟨r1, hx, hsfr1, hlnr1, hP1, cw⟩
      rw [wantL_one] at hx
      rw [hx] at hs; dsimp only at hs
      first
      | replace st := St.prs (b := c.pb) st 0 rfl cw (.inl (.head _)) hP1
      | replace st := St.prs (b := c.pb) st 1 rfl cw (.inl (.head _)) hP1
      | replace st := St.prs (b := c.pb) st 2 rfl cw (.inl (.head _)) hP1
      | replace st := St.prs (b := c.pb) st 3 rfl cw (.inl (.head _)) hP1
      | replace st := St.prs (b := c.pb) st 4 rfl cw (.inl (.head _)) hP1
      | replace st := St.prs (b := c.pb) st 5 rfl cw (.inl (.head _)) hP1
      | replace st := St.prs (b := c.pb) st 6 rfl cw (.inl (.head _)) hP1
      | replace st := St.prs (b := c.pb) st 7 rfl cw (.inl (.head _)) hP1
      | replace st := St.prs (b := c.pb) st 8 rfl cw (.inl (.head _)) hP1
      | replace st := St.prs (b := c.pb) st 9 rfl cw (.inl (.head _)) hP1
      dsimp only [setNth] at st
      have hr1 := hsfr1.trans hr
      obtain ⟨k, rfl⟩ : ∃ k, m = k + 1 := ⟨m - 1, by have := hm0 (want_ok (by assumption)).1; omega⟩
      rw [Nat.add_sub_cancel] at hs
      refine vc_end ?_
      refine vq_then ?_
      refine vc_keep [(0, _), (1, _)] ⟨rfl, rfl, trivial⟩ ?_
      refine vc_seq ?_
      refine vc_region ?_
      refine vc_y rfl rfl (y_mv rfl) ?_
      refine vc_y rfl rfl (y_mv rfl) ?_
      refine vc_y rfl rfl (y_add rfl rfl (by omega : _ = ((d + 1 : Nat) : Int)) (by omega) (by omega)) ?_
      refine vc_e (e_callp [_, _] rfl rfl Tryd.call88 rfl (prest_of c hR (d + 1) k (r1.length + 1) (hB k rfl) r1 (Nat.lt_succ_self _) hr1 _ (hC.k1 st.chg) (by first | exact st.res (i := 0) rfl | exact st.res (i := 1) rfl | exact st.res (i := 2) rfl | exact st.res (i := 3) rfl | exact st.res (i := 4) rfl | exact st.res (i := 5) rfl | exact st.res (i := 6) rfl | exact st.res (i := 7) rfl | exact st.res (i := 8) rfl | exact st.res (i := 9) rfl)) (by rintro _ w' ⟨f, hf, rfl, ch⟩ a ha; exact And.intro ha (Or.inr ⟨_, rfl, f, by rw [hs, hf], rfl, st.chg.trans ch⟩)) ?_)
      rintro _ w ⟨l, r2, hx, hsfr2, hlnr2, hP1, cw, ob, cb, Sb, rfl, hQ, hN⟩
      have hNSb := hN.le st.chg.size
      first
      | replace st := St.prsT (b := c.pb) st 0 rfl cw (.inl (.head _)) hP1 (holds_sm hQ) hN.2
      | replace st := St.prsT (b := c.pb) st 1 rfl cw (.inl (.head _)) hP1 (holds_sm hQ) hN.2
      | replace st := St.prsT (b := c.pb) st 2 rfl cw (.inl (.head _)) hP1 (holds_sm hQ) hN.2
      | replace st := St.prsT (b := c.pb) st 3 rfl cw (.inl (.head _)) hP1 (holds_sm hQ) hN.2
      | replace st := St.prsT (b := c.pb) st 4 rfl cw (.inl (.head _)) hP1 (holds_sm hQ) hN.2
      | replace st := St.prsT (b := c.pb) st 5 rfl cw (.inl (.head _)) hP1 (holds_sm hQ) hN.2
      | replace st := St.prsT (b := c.pb) st 6 rfl cw (.inl (.head _)) hP1 (holds_sm hQ) hN.2
      | replace st := St.prsT (b := c.pb) st 7 rfl cw (.inl (.head _)) hP1 (holds_sm hQ) hN.2
      | replace st := St.prsT (b := c.pb) st 8 rfl cw (.inl (.head _)) hP1 (holds_sm hQ) hN.2
      | replace st := St.prsT (b := c.pb) st 9 rfl cw (.inl (.head _)) hP1 (holds_sm hQ) hN.2
      dsimp only [setNth] at st
      rw [hx] at hs
      refine vc_y rfl rfl (y_as rfl) ?_
      refine vc_end ?_
      refine vq_then ?_
      refine vc_keep [(4, _)] ⟨rfl, trivial⟩ ?_
      refine vc_ret ?_
      refine vq_ret1 st (.inl rfl) Tryd.results118 (.tmp rfl) ?_
      refine .inl ⟨_, rfl, ?_⟩
      exact ⟨l, r2, hs, hsfr2.trans hsfr1, by simp at hlnr1; omega, (by first | exact st.res (i := 0) rfl | exact st.res (i := 1) rfl | exact st.res (i := 2) rfl | exact st.res (i := 3) rfl | exact st.res (i := 4) rfl | exact st.res (i := 5) rfl | exact st.res (i := 6) rfl | exact st.res (i := 7) rfl | exact st.res (i := 8) rfl | exact st.res (i := 9) rfl), st.chg, ob, cb, Sb, rfl, (st.res (i := 0) rfl).1, hNSb⟩
  · intro hg7
    try simp only [decide_eq_true_eq, decide_eq_false_iff_not, Bool.not_eq_true', Bool.not_eq_false', Bool.not_eq_true, Bool.not_eq_false, Int.not_lt, Int.not_le, Nat.not_lt, Nat.not_le, Bool.not_true, Bool.not_false, Bool.true_eq_false, Bool.false_eq_true] at hg7
    have hm0 : isT [123] r = true → m ≠ 0 := fun h => by rw [hg7] at h; cases h
    have hs := blkP_want (e := c.e) hm0
    refine vc_e (e_skip rfl rfl ?_)
    refine vc_e (e_skip rfl rfl ?_)
    refine vc_y rfl rfl (y_pickf rfl rfl) ?_
    refine vc_end ?_
    refine vq_then ?_
    refine vc_keep [(0, _), (1, _), (10, _)] ⟨rfl, rfl, rfl, trivial⟩ ?_
    refine vc_iff rfl ?_
    refine vc_code_skip ?_
    refine vq_then ?_
    refine vc_keep [(0, _), (1, _)] ⟨rfl, rfl, trivial⟩ ?_
    refine vc_seq ?_
    refine vc_region ?_
    refine vc_y rfl rfl (y_mv rfl) ?_
    refine vc_e (e_bs1 (l := [_]) st rfl rfl rfl rfl Tryd.underlying50 Tryd.sizeOf9 rfl rfl rfl Tryd.zeroValue9 ?_)
    intro b14 w hb14 st
    refine vc_e (e_callp [_, _] rfl rfl Tryd.call81 rfl (pwant_any c [[123]] (by simp) _ _ _ _ rfl r hr _ (hC.k1 st.chg) (by first | exact st.res (i := 0) rfl | exact st.res (i := 1) rfl | exact st.res (i := 2) rfl | exact st.res (i := 3) rfl | exact st.res (i := 4) rfl | exact st.res (i := 5) rfl | exact st.res (i := 6) rfl | exact st.res (i := 7) rfl | exact st.res (i := 8) rfl | exact st.res (i := 9) rfl) hR (st.res (i := 0) rfl) (by first | exact st.bne 0 1 (by decide) rfl rfl | exact st.bne 0 2 (by decide) rfl rfl | exact st.bne 0 3 (by decide) rfl rfl | exact st.bne 0 4 (by decide) rfl rfl | exact st.bne 0 5 (by decide) rfl rfl | exact st.bne 0 6 (by decide) rfl rfl)) (by rintro _ w' ⟨f, hf, rfl, ch⟩ a ha; rw [wantL_one] at hf; exact And.intro ha (Or.inr ⟨_, rfl, f, by rw [hs, hf], rfl, st.chg.trans ch⟩)) ?_)
    rintro _ w ⟨r1, hx, hsfr1, hlnr1, hP1, cw⟩
    rw [wantL_one] at hx
    rw [hx] at hs; dsimp only at hs
    first
    | replace st := St.prs (b := c.pb) st 0 rfl cw (.inl (.head _)) hP1
    | replace st := St.prs (b := c.pb) st 1 rfl cw (.inl (.head _)) hP1
    | replace st := St.prs (b := c.pb) st 2 rfl cw (.inl (.head _)) hP1
    | replace st := St.prs (b := c.pb) st 3 rfl cw (.inl (.head _)) hP1
    | replace st := St.prs (b := c.pb) st 4 rfl cw (.inl (.head _)) hP1
    | replace st := St.prs (b := c.pb) st 5 rfl cw (.inl (.head _)) hP1
    | replace st := St.prs (b := c.pb) st 6 rfl cw (.inl (.head _)) hP1
    | replace st := St.prs (b := c.pb) st 7 rfl cw (.inl (.head _)) hP1
    | replace st := St.prs (b := c.pb) st 8 rfl cw (.inl (.head _)) hP1
    | replace st := St.prs (b := c.pb) st 9 rfl cw (.inl (.head _)) hP1
    dsimp only [setNth] at st
    have hr1 := hsfr1.trans hr
    obtain ⟨k, rfl⟩ : ∃ k, m = k + 1 := ⟨m - 1, by have := hm0 (want_ok (by assumption)).1; omega⟩
    rw [Nat.add_sub_cancel] at hs
    refine vc_end ?_
    refine vq_then ?_
    refine vc_keep [(0, _), (1, _)] ⟨rfl, rfl, trivial⟩ ?_
    refine vc_seq ?_
    refine vc_region ?_
    refine vc_y rfl rfl (y_mv rfl) ?_
    refine vc_y rfl rfl (y_mv rfl) ?_
    refine vc_y rfl rfl (y_add rfl rfl (by omega : _ = ((d + 1 : Nat) : Int)) (by omega) (by omega)) ?_
    refine vc_e (e_callp [_, _] rfl rfl Tryd.call88 rfl (prest_of c hR (d + 1) k (r1.length + 1) (hB k rfl) r1 (Nat.lt_succ_self _) hr1 _ (hC.k1 st.chg) (by first | exact st.res (i := 0) rfl | exact st.res (i := 1) rfl | exact st.res (i := 2) rfl | exact st.res (i := 3) rfl | exact st.res (i := 4) rfl | exact st.res (i := 5) rfl | exact st.res (i := 6) rfl | exact st.res (i := 7) rfl | exact st.res (i := 8) rfl | exact st.res (i := 9) rfl)) (by rintro _ w' ⟨f, hf, rfl, ch⟩ a ha; exact And.intro ha (Or.inr ⟨_, rfl, f, by rw [hs, hf], rfl, st.chg.trans ch⟩)) ?_)
    rintro _ w ⟨l, r2, hx, hsfr2, hlnr2, hP1, cw, ob, cb, Sb, rfl, hQ, hN⟩
    have hNSb := hN.le st.chg.size
    first
    | replace st := St.prsT (b := c.pb) st 0 rfl cw (.inl (.head _)) hP1 (holds_sm hQ) hN.2
    | replace st := St.prsT (b := c.pb) st 1 rfl cw (.inl (.head _)) hP1 (holds_sm hQ) hN.2
    | replace st := St.prsT (b := c.pb) st 2 rfl cw (.inl (.head _)) hP1 (holds_sm hQ) hN.2
    | replace st := St.prsT (b := c.pb) st 3 rfl cw (.inl (.head _)) hP1 (holds_sm hQ) hN.2
    | replace st := St.prsT (b := c.pb) st 4 rfl cw (.inl (.head _)) hP1 (holds_sm hQ) hN.2
    | replace st := St.prsT (b := c.pb) st 5 rfl cw (.inl (.head _)) hP1 (holds_sm hQ) hN.2
    | replace st := St.prsT (b := c.pb) st 6 rfl cw (.inl (.head _)) hP1 (holds_sm hQ) hN.2
    | replace st := St.prsT (b := c.pb) st 7 rfl cw (.inl (.head _)) hP1 (holds_sm hQ) hN.2
    | replace st := St.prsT (b := c.pb) st 8 rfl cw (.inl (.head _)) hP1 (holds_sm hQ) hN.2
    | replace st := St.prsT (b := c.pb) st 9 rfl cw (.inl (.head _)) hP1 (holds_sm hQ) hN.2
    dsimp only [setNth] at st
    rw [hx] at hs
    refine vc_y rfl rfl (y_as rfl) ?_
    refine vc_end ?_
    refine vq_then ?_
    refine vc_keep [(4, _)] ⟨rfl, trivial⟩ ?_
    refine vc_ret ?_
    refine vq_ret1 st (.inl rfl) Tryd.results118 (.tmp rfl) ?_
    refine .inl ⟨_, rfl, ?_⟩
    exact ⟨l, r2, hs, hsfr2.trans hsfr1, by simp at hlnr1; omega, (by first | exact st.res (i := 0) rfl | exact st.res (i := 1) rfl | exact st.res (i := 2) rfl | exact st.res (i := 3) rfl | exact st.res (i := 4) rfl | exact st.res (i := 5) rfl | exact st.res (i := 6) rfl | exact st.res (i := 7) rfl | exact st.res (i := 8) rfl | exact st.res (i := 9) rfl), st.chg, ob, cb, Sb, rfl, (st.res (i := 0) rfl).1, hNSb⟩

set_option maxHeartbeats 1000000 in
theorem pchoice_of (c : PCtx) (hR : c.R = 65) (hg : c.g = 0) (d : Nat) (blk : List Tok → PR (List Sm)) (hB : BRead 118 c d blk) (a : Nat) (r : List Tok) (hr : r <:+ c.ts) (w : World) (hC : PCok c w) (hP : PAt c r w) (xb : Nat) (hX : w.heap[xb]? = some (.cells (sm00 (a : Int)).toArray 83 (0, 0))) (hne : c.pb ≠ xb) (hxn : c.n0 ≤ xb) : RetP Tryd.prog 111 [.pointer (some ⟨c.pb, 0, none⟩), .pointer (some ⟨xb, 0, none⟩), .int .i64 (d : Int)] w
    (PRes c r (choiceP c.e blk a r) [c.pb, xb] w (fun s _ w' => StIn 26 83 xb w.heap.size s w')) (PErr c (choiceP c.e blk a r) [c.pb, xb] w) := by
  refine retp_of [_, _, _] Tryd.func111 rfl Tryd.ntmps111 rfl ?_
  
  obtain ⟨w0, rfl⟩ : ∃ w0, w0 = w := ⟨_, rfl⟩
  have hP' := hP
  dsimp only [PAt, pcell] at hP
  have st := St.of2 [c.pb, xb] hP hX hne
  have KC : ∀ {w'}, Chg [c.pb, xb] w0 w' → PCok c w' := fun ch => hC.k2 ch hxn
  have h20 := hC.len
  have hl := suf_len hr
  have hs := choiceP.eq_1 c.e blk a r
  refine vc_seq ?_
  refine vc_region ?_
  refine vc_y rfl rfl (y_mv rfl) ?_
  refine vc_y rfl rfl (y_mv rfl) ?_
  refine vc_y rfl rfl (y_mv rfl) ?_
  refine vc_e (e_callp [_] rfl rfl Tryd.call117 rfl (pcond_any c hR hg r hr _ (KC st.chg) (by first | exact st.res (i := 0) rfl | exact st.res (i := 1) rfl | exact st.res (i := 2) rfl | exact st.res (i := 3) rfl | exact st.res (i := 4) rfl | exact st.res (i := 5) rfl | exact st.res (i := 6) rfl | exact st.res (i := 7) rfl | exact st.res (i := 8) rfl | exact st.res (i := 9) rfl)) (by rintro _ w' ⟨f, hf, rfl, ch⟩ a ha; exact And.intro ha (Or.inr ⟨_, rfl, f, by rw [hs, hf], rfl, st.chg.trans (ch.mono (by simp))⟩)) ?_)
  rintro _ w ⟨x, r1, hx, hsfr1, hlnr1, hP1, cw, ox, cx, Sx, rfl, hQ, hN⟩
  have hNSx := hN.le st.chg.size
  first
  | replace st := St.prsT (b := c.pb) st 0 rfl cw (.inl (.head _)) hP1 (holds_ex hQ) hN.2
  | replace st := St.prsT (b := c.pb) st 1 rfl cw (.inl (.head _)) hP1 (holds_ex hQ) hN.2
  | replace st := St.prsT (b := c.pb) st 2 rfl cw (.inl (.head _)) hP1 (holds_ex hQ) hN.2
  | replace st := St.prsT (b := c.pb) st 3 rfl cw (.inl (.head _)) hP1 (holds_ex hQ) hN.2
  | replace st := St.prsT (b := c.pb) st 4 rfl cw (.inl (.head _)) hP1 (holds_ex hQ) hN.2
  | replace st := St.prsT (b := c.pb) st 5 rfl cw (.inl (.head _)) hP1 (holds_ex hQ) hN.2
  | replace st := St.prsT (b := c.pb) st 6 rfl cw (.inl (.head _)) hP1 (holds_ex hQ) hN.2
  | replace st := St.prsT (b := c.pb) st 7 rfl cw (.inl (.head _)) hP1 (holds_ex hQ) hN.2
  | replace st := St.prsT (b := c.pb) st 8 rfl cw (.inl (.head _)) hP1 (holds_ex hQ) hN.2
  | replace st := St.prsT (b := c.pb) st 9 rfl cw (.inl (.head _)) hP1 (holds_ex hQ) hN.2
  dsimp only [setNth] at st
  rw [hx] at hs; dsimp only at hs
  have hr1 := hsfr1.trans hr
  refine vc_y rfl rfl (y_nck rfl) ?_
  refine vc_y rfl rfl (y_fa0 rfl Tryd.underlying83 rfl rfl Tryd.sizeOf81 rfl) ?_
  first
  | refine vc_e (e_st st 0 rfl rfl rfl rfl Tryd.sizeOf81 rfl rfl (by first | (right; assumption) | (left; simp)) ?_)
  | refine vc_e (e_st st 1 rfl rfl rfl rfl Tryd.sizeOf81 rfl rfl (by first | (right; assumption) | (left; simp)) ?_)
  | refine vc_e (e_st st 2 rfl rfl rfl rfl Tryd.sizeOf81 rfl rfl (by first | (right; assumption) | (left; simp)) ?_)
  | refine vc_e (e_st st 3 rfl rfl rfl rfl Tryd.sizeOf81 rfl rfl (by first | (right; assumption) | (left; simp)) ?_)
  | refine vc_e (e_st st 4 rfl rfl rfl rfl Tryd.sizeOf81 rfl rfl (by first | (right; assumption) | (left; simp)) ?_)
  | refine vc_e (e_st st 5 rfl rfl rfl rfl Tryd.sizeOf81 rfl rfl (by first | (right; assumption) | (left; simp)) ?_)
  | refine vc_e (e_st st 6 rfl rfl rfl rfl Tryd.sizeOf81 rfl rfl (by first | (right; assumption) | (left; simp)) ?_)
  | refine vc_e (e_st st 7 rfl rfl rfl rfl Tryd.sizeOf81 rfl rfl (by first | (right; assumption) | (left; simp)) ?_)
  | refine vc_e (e_st st 8 rfl rfl rfl rfl Tryd.sizeOf81 rfl rfl (by first | (right; assumption) | (left; simp)) ?_)
  intro w st; dsimp only [setNth, wr] at st
  refine vc_y rfl rfl (y_nck rfl) ?_
  refine vc_y rfl rfl ((by first | exact y_faz (k := 3) rfl Tryd.underlying83 rfl rfl Tryd.sizeOf24 rfl | exact y_fa (k := 3) rfl Tryd.underlying83 rfl rfl Tryd.sizeOf24 rfl)) ?_
  first
  | refine vc_e (e_st st 0 rfl rfl rfl rfl Tryd.sizeOf24 rfl rfl (by first | (right; assumption) | (left; simp)) ?_)
  | refine vc_e (e_st st 1 rfl rfl rfl rfl Tryd.sizeOf24 rfl rfl (by first | (right; assumption) | (left; simp)) ?_)
  | refine vc_e (e_st st 2 rfl rfl rfl rfl Tryd.sizeOf24 rfl rfl (by first | (right; assumption) | (left; simp)) ?_)
  | refine vc_e (e_st st 3 rfl rfl rfl rfl Tryd.sizeOf24 rfl rfl (by first | (right; assumption) | (left; simp)) ?_)
  | refine vc_e (e_st st 4 rfl rfl rfl rfl Tryd.sizeOf24 rfl rfl (by first | (right; assumption) | (left; simp)) ?_)
  | refine vc_e (e_st st 5 rfl rfl rfl rfl Tryd.sizeOf24 rfl rfl (by first | (right; assumption) | (left; simp)) ?_)
  | refine vc_e (e_st st 6 rfl rfl rfl rfl Tryd.sizeOf24 rfl rfl (by first | (right; assumption) | (left; simp)) ?_)
  | refine vc_e (e_st st 7 rfl rfl rfl rfl Tryd.sizeOf24 rfl rfl (by first | (right; assumption) | (left; simp)) ?_)
  | refine vc_e (e_st st 8 rfl rfl rfl rfl Tryd.sizeOf24 rfl rfl (by first | (right; assumption) | (left; simp)) ?_)
  intro w st; dsimp only [setNth, wr] at st
  refine vc_end ?_
  refine vq_then ?_
  refine vc_keep [(0, _), (1, _), (2, _)] ⟨rfl, rfl, rfl, trivial⟩ ?_
  refine vc_seq ?_
  refine vc_region ?_
  refine vc_y rfl rfl (y_mv rfl) ?_
  refine vc_y rfl rfl (y_mv rfl) ?_
  refine vc_y rfl rfl (y_mv rfl) ?_
  refine vc_e (e_callp [_, _] rfl rfl Tryd.call118 rfl (hB r1 hr1 _ (KC st.chg) (by first | exact st.res (i := 0) rfl | exact st.res (i := 1) rfl | exact st.res (i := 2) rfl | exact st.res (i := 3) rfl | exact st.res (i := 4) rfl | exact st.res (i := 5) rfl | exact st.res (i := 6) rfl | exact st.res (i := 7) rfl | exact st.res (i := 8) rfl | exact st.res (i := 9) rfl)) (by rintro _ w' ⟨f, hf, rfl, ch⟩ a ha; exact And.intro ha (Or.inr ⟨_, rfl, f, by rw [hs, hf], rfl, st.chg.trans (ch.mono (by simp))⟩)) ?_)
  rintro _ w ⟨l1, r2, hx, hsfr2, hlnr2, hP1, cw, ob, cb, Sb, rfl, hQ, hN⟩
  have hNSb := hN.le st.chg.size
  first
  | replace st := St.prsT (b := c.pb) st 0 rfl cw (.inl (.head _)) hP1 (holds_sm hQ) hN.2
  | replace st := St.prsT (b := c.pb) st 1 rfl cw (.inl (.head _)) hP1 (holds_sm hQ) hN.2
  | replace st := St.prsT (b := c.pb) st 2 rfl cw (.inl (.head _)) hP1 (holds_sm hQ) hN.2
  | replace st := St.prsT (b := c.pb) st 3 rfl cw (.inl (.head _)) hP1 (holds_sm hQ) hN.2
  | replace st := St.prsT (b := c.pb) st 4 rfl cw (.inl (.head _)) hP1 (holds_sm hQ) hN.2
  | replace st := St.prsT (b := c.pb) st 5 rfl cw (.inl (.head _)) hP1 (holds_sm hQ) hN.2
  | replace st := St.prsT (b := c.pb) st 6 rfl cw (.inl (.head _)) hP1 (holds_sm hQ) hN.2
  | replace st := St.prsT (b := c.pb) st 7 rfl cw (.inl (.head _)) hP1 (holds_sm hQ) hN.2
  | replace st := St.prsT (b := c.pb) st 8 rfl cw (.inl (.head _)) hP1 (holds_sm hQ) hN.2
  | replace st := St.prsT (b := c.pb) st 9 rfl cw (.inl (.head _)) hP1 (holds_sm hQ) hN.2
  dsimp only [setNth] at st
  rw [hx] at hs; dsimp only at hs
  have hr2 := hsfr2.trans hr1
  refine vc_y rfl rfl (y_nck rfl) ?_
  refine vc_y rfl rfl ((by first | exact y_faz (k := 4) rfl Tryd.underlying83 rfl rfl Tryd.sizeOf76 rfl | exact y_fa (k := 4) rfl Tryd.underlying83 rfl rfl Tryd.sizeOf76 rfl)) ?_
  first
  | refine vc_e (e_st st 0 rfl rfl rfl rfl Tryd.sizeOf76 rfl rfl (by first | (right; assumption) | (left; simp)) ?_)
  | refine vc_e (e_st st 1 rfl rfl rfl rfl Tryd.sizeOf76 rfl rfl (by first | (right; assumption) | (left; simp)) ?_)
  | refine vc_e (e_st st 2 rfl rfl rfl rfl Tryd.sizeOf76 rfl rfl (by first | (right; assumption) | (left; simp)) ?_)
  | refine vc_e (e_st st 3 rfl rfl rfl rfl Tryd.sizeOf76 rfl rfl (by first | (right; assumption) | (left; simp)) ?_)
  | refine vc_e (e_st st 4 rfl rfl rfl rfl Tryd.sizeOf76 rfl rfl (by first | (right; assumption) | (left; simp)) ?_)
  | refine vc_e (e_st st 5 rfl rfl rfl rfl Tryd.sizeOf76 rfl rfl (by first | (right; assumption) | (left; simp)) ?_)
  | refine vc_e (e_st st 6 rfl rfl rfl rfl Tryd.sizeOf76 rfl rfl (by first | (right; assumption) | (left; simp)) ?_)
  | refine vc_e (e_st st 7 rfl rfl rfl rfl Tryd.sizeOf76 rfl rfl (by first | (right; assumption) | (left; simp)) ?_)
  | refine vc_e (e_st st 8 rfl rfl rfl rfl Tryd.sizeOf76 rfl rfl (by first | (right; assumption) | (left; simp)) ?_)
  intro w st; dsimp only [setNth, wr] at st
  refine vc_end ?_
  refine vq_then ?_
  refine vc_keep [(0, _), (1, _), (2, _)] ⟨rfl, rfl, rfl, trivial⟩ ?_
  refine vc_seq ?_
  refine vc_region ?_
  refine vc_y rfl rfl (y_mv rfl) ?_
  refine vc_e (e_call [_, _] rfl rfl Tryd.call67 rfl (ptake_any c wElse r2 hr2 _ (KC st.chg) (by first | exact st.res (i := 0) rfl | exact st.res (i := 1) rfl | exact st.res (i := 2) rfl | exact st.res (i := 3) rfl | exact st.res (i := 4) rfl | exact st.res (i := 5) rfl | exact st.res (i := 6) rfl | exact st.res (i := 7) rfl | exact st.res (i := 8) rfl | exact st.res (i := 9) rfl)) ?_)
  rintro _ w ⟨rfl, hP1, cw⟩
  first
  | replace st := St.prs (b := c.pb) st 0 rfl cw (.inl (.head _)) hP1
  | replace st := St.prs (b := c.pb) st 1 rfl cw (.inl (.head _)) hP1
  | replace st := St.prs (b := c.pb) st 2 rfl cw (.inl (.head _)) hP1
  | replace st := St.prs (b := c.pb) st 3 rfl cw (.inl (.head _)) hP1
  | replace st := St.prs (b := c.pb) st 4 rfl cw (.inl (.head _)) hP1
  | replace st := St.prs (b := c.pb) st 5 rfl cw (.inl (.head _)) hP1
  | replace st := St.prs (b := c.pb) st 6 rfl cw (.inl (.head _)) hP1
  | replace st := St.prs (b := c.pb) st 7 rfl cw (.inl (.head _)) hP1
  | replace st := St.prs (b := c.pb) st 8 rfl cw (.inl (.head _)) hP1
  | replace st := St.prs (b := c.pb) st 9 rfl cw (.inl (.head _)) hP1
  dsimp only [setNth] at st
  refine vc_end ?_
  refine vq_then ?_
  refine vc_keep [(0, _), (1, _), (2, _), (21, _)] ⟨rfl, rfl, rfl, rfl, trivial⟩ ?_
  refine vc_ifs rfl ?_ ?_
  · intro hc21
    try simp only [decide_eq_true_eq, decide_eq_false_iff_not, Bool.not_eq_true', Bool.not_eq_false', Bool.not_eq_true, Bool.not_eq_false, Int.not_lt, Int.not_le, Nat.not_lt, Nat.not_le, Bool.not_true, Bool.not_false, Bool.true_eq_false, Bool.false_eq_true] at hc21
    simp only [hc21, if_true] at st hs
    have ht := tail_lt (isT_ne hc21)
    have hr2t := suf_tail hr2
    refine vc_region ?_
    refine vc_y rfl rfl (y_mv rfl) ?_
    refine vc_y rfl rfl (y_mv rfl) ?_
    refine vc_y rfl rfl (y_mv rfl) ?_
    refine vc_e (e_callp [_, _] rfl rfl Tryd.call118 rfl (hB r2.tail hr2t _ (KC st.chg) (by first | exact st.res (i := 0) rfl | exact st.res (i := 1) rfl | exact st.res (i := 2) rfl | exact st.res (i := 3) rfl | exact st.res (i := 4) rfl | exact st.res (i := 5) rfl | exact st.res (i := 6) rfl | exact st.res (i := 7) rfl | exact st.res (i := 8) rfl | exact st.res (i := 9) rfl)) (by rintro _ w' ⟨f, hf, rfl, ch⟩ a ha; exact And.intro ha (Or.inr ⟨_, rfl, f, by rw [hs, hf], rfl, st.chg.trans (ch.mono (by simp))⟩)) ?_)
    rintro _ w ⟨l2, r3, hx, hsfr3, hlnr3, hP1, cw, ol, cl, Sl, rfl, hQ, hN⟩
    have hNSl := hN.le st.chg.size
    first
    | replace st := St.prsT (b := c.pb) st 0 rfl cw (.inl (.head _)) hP1 (holds_sm hQ) hN.2
    | replace st := St.prsT (b := c.pb) st 1 rfl cw (.inl (.head _)) hP1 (holds_sm hQ) hN.2
    | replace st := St.prsT (b := c.pb) st 2 rfl cw (.inl (.head _)) hP1 (holds_sm hQ) hN.2
    | replace st := St.prsT (b := c.pb) st 3 rfl cw (.inl (.head _)) hP1 (holds_sm hQ) hN.2
    | replace st := St.prsT (b := c.pb) st 4 rfl cw (.inl (.head _)) hP1 (holds_sm hQ) hN.2
    | replace st := St.prsT (b := c.pb) st 5 rfl cw (.inl (.head _)) hP1 (holds_sm hQ) hN.2
    | replace st := St.prsT (b := c.pb) st 6 rfl cw (.inl (.head _)) hP1 (holds_sm hQ) hN.2
    | replace st := St.prsT (b := c.pb) st 7 rfl cw (.inl (.head _)) hP1 (holds_sm hQ) hN.2
    | replace st := St.prsT (b := c.pb) st 8 rfl cw (.inl (.head _)) hP1 (holds_sm hQ) hN.2
    | replace st := St.prsT (b := c.pb) st 9 rfl cw (.inl (.head _)) hP1 (holds_sm hQ) hN.2
    dsimp only [setNth] at st
    rw [hx] at hs; dsimp only at hs
    have hr3 := hsfr3.trans hr2t
    refine vc_y rfl rfl (y_nck rfl) ?_
    refine vc_y rfl rfl ((by first | exact y_faz (k := 5) rfl Tryd.underlying83 rfl rfl Tryd.sizeOf76 rfl | exact y_fa (k := 5) rfl Tryd.underlying83 rfl rfl Tryd.sizeOf76 rfl)) ?_
    first
    | refine vc_e (e_st st 0 rfl rfl rfl rfl Tryd.sizeOf76 rfl rfl (by first | (right; assumption) | (left; simp)) ?_)
    | refine vc_e (e_st st 1 rfl rfl rfl rfl Tryd.sizeOf76 rfl rfl (by first | (right; assumption) | (left; simp)) ?_)
    | refine vc_e (e_st st 2 rfl rfl rfl rfl Tryd.sizeOf76 rfl rfl (by first | (right; assumption) | (left; simp)) ?_)
    | refine vc_e (e_st st 3 rfl rfl rfl rfl Tryd.sizeOf76 rfl rfl (by first | (right; assumption) | (left; simp)) ?_)
    | refine vc_e (e_st st 4 rfl rfl rfl rfl Tryd.sizeOf76 rfl rfl (by first | (right; assumption) | (left; simp)) ?_)
    | refine vc_e (e_st st 5 rfl rfl rfl rfl Tryd.sizeOf76 rfl rfl (by first | (right; assumption) | (left; simp)) ?_)
    | refine vc_e (e_st st 6 rfl rfl rfl rfl Tryd.sizeOf76 rfl rfl (by first | (right; assumption) | (left; simp)) ?_)
    | refine vc_e (e_st st 7 rfl rfl rfl rfl Tryd.sizeOf76 rfl rfl (by first | (right; assumption) | (left; simp)) ?_)
    | refine vc_e (e_st st 8 rfl rfl rfl rfl Tryd.sizeOf76 rfl rfl (by first | (right; assumption) | (left; simp)) ?_)
    intro w st; dsimp only [setNth, wr] at st
    refine vc_end ?_
    refine vq_ret0 (.inr rfl) Tryd.results111 ?_
    refine .inl ⟨_, rfl, ?_⟩
    exact ⟨_, r3, hs, hsfr3.trans ((List.tail_suffix _).trans (hsfr2.trans hsfr1)), by omega, (by first | exact st.res (i := 0) rfl | exact st.res (i := 1) rfl | exact st.res (i := 2) rfl | exact st.res (i := 3) rfl | exact st.res (i := 4) rfl | exact st.res (i := 5) rfl | exact st.res (i := 6) rfl | exact st.res (i := 7) rfl | exact st.res (i := 8) rfl | exact st.res (i := 9) rfl), st.chg, ox, ob, ol, cx, cb, cl, Sx, Sb, Sl, (by first | exact st.res (i := 0) rfl | exact st.res (i := 1) rfl | exact st.res (i := 2) rfl | exact st.res (i := 3) rfl | exact st.res (i := 4) rfl | exact st.res (i := 5) rfl | exact st.res (i := 6) rfl | exact st.res (i := 7) rfl | exact st.res (i := 8) rfl | exact st.res (i := 9) rfl | exact st.res (i := 10) rfl | exact st.res (i := 11) rfl), (st.res (i := 2) rfl).1, (st.res (i := 1) rfl).1, (st.res (i := 0) rfl).1, hNSx.app (hNSb.app hNSl (st.ne (i := 1) (j := 0) (by decide) rfl rfl)) (fun b hb hb' => (List.mem_append.1 hb').elim (st.ne (i := 2) (j := 1) (by decide) rfl rfl b hb) (st.ne (i := 2) (j := 0) (by decide) rfl rfl b hb))⟩
  · intro hc21
    try simp only [decide_eq_true_eq, decide_eq_false_iff_not, Bool.not_eq_true', Bool.not_eq_false', Bool.not_eq_true, Bool.not_eq_false, Int.not_lt, Int.not_le, Nat.not_lt, Nat.not_le, Bool.not_true, Bool.not_false, Bool.true_eq_false, Bool.false_eq_true] at hc21
    simp only [hc21, Bool.false_eq_true, if_false] at st hs
    refine vc_code_skip ?_
    refine vq_ret0 (.inr rfl) Tryd.results111 ?_
    refine .inl ⟨_, rfl, ?_⟩
    exact ⟨_, r2, hs, hsfr2.trans hsfr1, by omega, (by first | exact st.res (i := 0) rfl | exact st.res (i := 1) rfl | exact st.res (i := 2) rfl | exact st.res (i := 3) rfl | exact st.res (i := 4) rfl | exact st.res (i := 5) rfl | exact st.res (i := 6) rfl | exact st.res (i := 7) rfl | exact st.res (i := 8) rfl | exact st.res (i := 9) rfl), st.chg, ox, ob, none, cx, cb, 0, Sx, Sb, [], (by first | exact st.res (i := 0) rfl | exact st.res (i := 1) rfl | exact st.res (i := 2) rfl | exact st.res (i := 3) rfl | exact st.res (i := 4) rfl | exact st.res (i := 5) rfl | exact st.res (i := 6) rfl | exact st.res (i := 7) rfl | exact st.res (i := 8) rfl | exact st.res (i := 9) rfl | exact st.res (i := 10) rfl | exact st.res (i := 11) rfl), (st.res (i := 1) rfl).1, (st.res (i := 0) rfl).1, smr_nil, by rw [List.append_nil]; exact hNSx.app hNSb (st.ne (i := 1) (j := 0) (by decide) rfl rfl)⟩

theorem ploop_of (c : PCtx) (hR : c.R = 65) (hg : c.g = 0) (d : Nat) (blk : List Tok → PR (List Sm)) (hB : BRead 118 c d blk) (a : Nat) (r : List Tok) (hr : r <:+ c.ts) (w : World) (hC : PCok c w) (hP : PAt c r w) (xb : Nat) (hX : w.heap[xb]? = some (.cells (sm00 (a : Int)).toArray 83 (0, 0))) (hne : c.pb ≠ xb) (hxn : c.n0 ≤ xb) : RetP Tryd.prog 112 [.pointer (some ⟨c.pb, 0, none⟩), .pointer (some ⟨xb, 0, none⟩), .int .i64 (d : Int)] w
    (PRes c r (loopP c.e blk a r) [c.pb, xb] w (fun s _ w' => StIn 26 83 xb w.heap.size s w')) (PErr c (loopP c.e blk a r) [c.pb, xb] w) := by
  refine retp_of [_, _, _] Tryd.func112 rfl Tryd.ntmps112 rfl ?_
  
  obtain ⟨w0, rfl⟩ : ∃ w0, w0 = w := ⟨_, rfl⟩
  have hP' := hP
  dsimp only [PAt, pcell] at hP
  have st := St.of2 [c.pb, xb] hP hX hne
  have KC : ∀ {w'}, Chg [c.pb, xb] w0 w' → PCok c w' := fun ch => hC.k2 ch hxn
  have h20 := hC.len
  have hl := suf_len hr
  have hs := loopP.eq_1 c.e blk a r
  refine vc_seq ?_
  refine vc_region ?_
  refine vc_y rfl rfl (y_mv rfl) ?_
  refine vc_y rfl rfl (y_mv rfl) ?_
  refine vc_y rfl rfl (y_mv rfl) ?_
  refine vc_e (e_callp [_] rfl rfl Tryd.call117 rfl (pcond_any c hR hg r hr _ (KC st.chg) (by first | exact st.res (i := 0) rfl | exact st.res (i := 1) rfl | exact st.res (i := 2) rfl | exact st.res (i := 3) rfl | exact st.res (i := 4) rfl | exact st.res (i := 5) rfl | exact st.res (i := 6) rfl | exact st.res (i := 7) rfl | exact st.res (i := 8) rfl | exact st.res (i := 9) rfl)) (by rintro _ w' ⟨f, hf, rfl, ch⟩ a ha; exact And.intro ha (Or.inr ⟨_, rfl, f, by rw [hs, hf], rfl, st.chg.trans (ch.mono (by simp))⟩)) ?_)
  rintro _ w ⟨x, r1, hx, hsfr1, hlnr1, hP1, cw, ox, cx, Sx, rfl, hQ, hN⟩
  have hNSx := hN.le st.chg.size
  first
  | replace st := St.prsT (b := c.pb) st 0 rfl cw (.inl (.head _)) hP1 (holds_ex hQ) hN.2
  | replace st := St.prsT (b := c.pb) st 1 rfl cw (.inl (.head _)) hP1 (holds_ex hQ) hN.2
  | replace st := St.prsT (b := c.pb) st 2 rfl cw (.inl (.head _)) hP1 (holds_ex hQ) hN.2
  | replace st := St.prsT (b := c.pb) st 3 rfl cw (.inl (.head _)) hP1 (holds_ex hQ) hN.2
  | replace st := St.prsT (b := c.pb) st 4 rfl cw (.inl (.head _)) hP1 (holds_ex hQ) hN.2
  | replace st := St.prsT (b := c.pb) st 5 rfl cw (.inl (.head _)) hP1 (holds_ex hQ) hN.2
  | replace st := St.prsT (b := c.pb) st 6 rfl cw (.inl (.head _)) hP1 (holds_ex hQ) hN.2
  | replace st := St.prsT (b := c.pb) st 7 rfl cw (.inl (.head _)) hP1 (holds_ex hQ) hN.2
  | replace st := St.prsT (b := c.pb) st 8 rfl cw (.inl (.head _)) hP1 (holds_ex hQ) hN.2
  | replace st := St.prsT (b := c.pb) st 9 rfl cw (.inl (.head _)) hP1 (holds_ex hQ) hN.2
  dsimp only [setNth] at st
  rw [hx] at hs; dsimp only at hs
  have hr1 := hsfr1.trans hr
  refine vc_y rfl rfl (y_nck rfl) ?_
  refine vc_y rfl rfl (y_fa0 rfl Tryd.underlying83 rfl rfl Tryd.sizeOf81 rfl) ?_
  first
  | refine vc_e (e_st st 0 rfl rfl rfl rfl Tryd.sizeOf81 rfl rfl (by first | (right; assumption) | (left; simp)) ?_)
  | refine vc_e (e_st st 1 rfl rfl rfl rfl Tryd.sizeOf81 rfl rfl (by first | (right; assumption) | (left; simp)) ?_)
  | refine vc_e (e_st st 2 rfl rfl rfl rfl Tryd.sizeOf81 rfl rfl (by first | (right; assumption) | (left; simp)) ?_)
  | refine vc_e (e_st st 3 rfl rfl rfl rfl Tryd.sizeOf81 rfl rfl (by first | (right; assumption) | (left; simp)) ?_)
  | refine vc_e (e_st st 4 rfl rfl rfl rfl Tryd.sizeOf81 rfl rfl (by first | (right; assumption) | (left; simp)) ?_)
  | refine vc_e (e_st st 5 rfl rfl rfl rfl Tryd.sizeOf81 rfl rfl (by first | (right; assumption) | (left; simp)) ?_)
  | refine vc_e (e_st st 6 rfl rfl rfl rfl Tryd.sizeOf81 rfl rfl (by first | (right; assumption) | (left; simp)) ?_)
  | refine vc_e (e_st st 7 rfl rfl rfl rfl Tryd.sizeOf81 rfl rfl (by first | (right; assumption) | (left; simp)) ?_)
  | refine vc_e (e_st st 8 rfl rfl rfl rfl Tryd.sizeOf81 rfl rfl (by first | (right; assumption) | (left; simp)) ?_)
  intro w st; dsimp only [setNth, wr] at st
  refine vc_y rfl rfl (y_nck rfl) ?_
  refine vc_y rfl rfl ((by first | exact y_faz (k := 3) rfl Tryd.underlying83 rfl rfl Tryd.sizeOf24 rfl | exact y_fa (k := 3) rfl Tryd.underlying83 rfl rfl Tryd.sizeOf24 rfl)) ?_
  first
  | refine vc_e (e_st st 0 rfl rfl rfl rfl Tryd.sizeOf24 rfl rfl (by first | (right; assumption) | (left; simp)) ?_)
  | refine vc_e (e_st st 1 rfl rfl rfl rfl Tryd.sizeOf24 rfl rfl (by first | (right; assumption) | (left; simp)) ?_)
  | refine vc_e (e_st st 2 rfl rfl rfl rfl Tryd.sizeOf24 rfl rfl (by first | (right; assumption) | (left; simp)) ?_)
  | refine vc_e (e_st st 3 rfl rfl rfl rfl Tryd.sizeOf24 rfl rfl (by first | (right; assumption) | (left; simp)) ?_)
  | refine vc_e (e_st st 4 rfl rfl rfl rfl Tryd.sizeOf24 rfl rfl (by first | (right; assumption) | (left; simp)) ?_)
  | refine vc_e (e_st st 5 rfl rfl rfl rfl Tryd.sizeOf24 rfl rfl (by first | (right; assumption) | (left; simp)) ?_)
  | refine vc_e (e_st st 6 rfl rfl rfl rfl Tryd.sizeOf24 rfl rfl (by first | (right; assumption) | (left; simp)) ?_)
  | refine vc_e (e_st st 7 rfl rfl rfl rfl Tryd.sizeOf24 rfl rfl (by first | (right; assumption) | (left; simp)) ?_)
  | refine vc_e (e_st st 8 rfl rfl rfl rfl Tryd.sizeOf24 rfl rfl (by first | (right; assumption) | (left; simp)) ?_)
  intro w st; dsimp only [setNth, wr] at st
  refine vc_end ?_
  refine vq_then ?_
  refine vc_keep [(0, _), (1, _), (2, _)] ⟨rfl, rfl, rfl, trivial⟩ ?_
  refine vc_region ?_
  refine vc_y rfl rfl (y_mv rfl) ?_
  refine vc_y rfl rfl (y_mv rfl) ?_
  refine vc_y rfl rfl (y_mv rfl) ?_
  refine vc_e (e_callp [_, _] rfl rfl Tryd.call118 rfl (hB r1 hr1 _ (KC st.chg) (by first | exact st.res (i := 0) rfl | exact st.res (i := 1) rfl | exact st.res (i := 2) rfl | exact st.res (i := 3) rfl | exact st.res (i := 4) rfl | exact st.res (i := 5) rfl | exact st.res (i := 6) rfl | exact st.res (i := 7) rfl | exact st.res (i := 8) rfl | exact st.res (i := 9) rfl)) (by rintro _ w' ⟨f, hf, rfl, ch⟩ a ha; exact And.intro ha (Or.inr ⟨_, rfl, f, by rw [hs, hf], rfl, st.chg.trans (ch.mono (by simp))⟩)) ?_)
  rintro _ w ⟨l1, r2, hx, hsfr2, hlnr2, hP1, cw, ob, cb, Sb, rfl, hQ, hN⟩
  have hNSb := hN.le st.chg.size
  first
  | replace st := St.prsT (b := c.pb) st 0 rfl cw (.inl (.head _)) hP1 (holds_sm hQ) hN.2
  | replace st := St.prsT (b := c.pb) st 1 rfl cw (.inl (.head _)) hP1 (holds_sm hQ) hN.2
  | replace st := St.prsT (b := c.pb) st 2 rfl cw (.inl (.head _)) hP1 (holds_sm hQ) hN.2
  | replace st := St.prsT (b := c.pb) st 3 rfl cw (.inl (.head _)) hP1 (holds_sm hQ) hN.2
  | replace st := St.prsT (b := c.pb) st 4 rfl cw (.inl (.head _)) hP1 (holds_sm hQ) hN.2
  | replace st := St.prsT (b := c.pb) st 5 rfl cw (.inl (.head _)) hP1 (holds_sm hQ) hN.2
  | replace st := St.prsT (b := c.pb) st 6 rfl cw (.inl (.head _)) hP1 (holds_sm hQ) hN.2
  | replace st := St.prsT (b := c.pb) st 7 rfl cw (.inl (.head _)) hP1 (holds_sm hQ) hN.2
  | replace st := St.prsT (b := c.pb) st 8 rfl cw (.inl (.head _)) hP1 (holds_sm hQ) hN.2
  | replace st := St.prsT (b := c.pb) st 9 rfl cw (.inl (.head _)) hP1 (holds_sm hQ) hN.2
  dsimp only [setNth] at st
  rw [hx] at hs; dsimp only at hs
  have hr2 := hsfr2.trans hr1
  refine vc_y rfl rfl (y_nck rfl) ?_
  refine vc_y rfl rfl ((by first | exact y_faz (k := 4) rfl Tryd.underlying83 rfl rfl Tryd.sizeOf76 rfl | exact y_fa (k := 4) rfl Tryd.underlying83 rfl rfl Tryd.sizeOf76 rfl)) ?_
  first
  | refine vc_e (e_st st 0 rfl rfl rfl rfl Tryd.sizeOf76 rfl rfl (by first | (right; assumption) | (left; simp)) ?_)
  | refine vc_e (e_st st 1 rfl rfl rfl rfl Tryd.sizeOf76 rfl rfl (by first | (right; assumption) | (left; simp)) ?_)
  | refine vc_e (e_st st 2 rfl rfl rfl rfl Tryd.sizeOf76 rfl rfl (by first | (right; assumption) | (left; simp)) ?_)
  | refine vc_e (e_st st 3 rfl rfl rfl rfl Tryd.sizeOf76 rfl rfl (by first | (right; assumption) | (left; simp)) ?_)
  | refine vc_e (e_st st 4 rfl rfl rfl rfl Tryd.sizeOf76 rfl rfl (by first | (right; assumption) | (left; simp)) ?_)
  | refine vc_e (e_st st 5 rfl rfl rfl rfl Tryd.sizeOf76 rfl rfl (by first | (right; assumption) | (left; simp)) ?_)
  | refine vc_e (e_st st 6 rfl rfl rfl rfl Tryd.sizeOf76 rfl rfl (by first | (right; assumption) | (left; simp)) ?_)
  | refine vc_e (e_st st 7 rfl rfl rfl rfl Tryd.sizeOf76 rfl rfl (by first | (right; assumption) | (left; simp)) ?_)
  | refine vc_e (e_st st 8 rfl rfl rfl rfl Tryd.sizeOf76 rfl rfl (by first | (right; assumption) | (left; simp)) ?_)
  intro w st; dsimp only [setNth, wr] at st
  refine vc_end ?_
  refine vq_ret0 (.inr rfl) Tryd.results112 ?_
  refine .inl ⟨_, rfl, ?_⟩
  exact ⟨_, r2, hs, hsfr2.trans hsfr1, by omega, (by first | exact st.res (i := 0) rfl | exact st.res (i := 1) rfl | exact st.res (i := 2) rfl | exact st.res (i := 3) rfl | exact st.res (i := 4) rfl | exact st.res (i := 5) rfl | exact st.res (i := 6) rfl | exact st.res (i := 7) rfl | exact st.res (i := 8) rfl | exact st.res (i := 9) rfl), st.chg, ox, ob, none, cx, cb, 0, Sx, Sb, [], (by first | exact st.res (i := 0) rfl | exact st.res (i := 1) rfl | exact st.res (i := 2) rfl | exact st.res (i := 3) rfl | exact st.res (i := 4) rfl | exact st.res (i := 5) rfl | exact st.res (i := 6) rfl | exact st.res (i := 7) rfl | exact st.res (i := 8) rfl | exact st.res (i := 9) rfl | exact st.res (i := 10) rfl | exact st.res (i := 11) rfl), (st.res (i := 1) rfl).1, (st.res (i := 0) rfl).1, smr_nil, by rw [List.append_nil]; exact hNSx.app hNSb (st.ne (i := 1) (j := 0) (by decide) rfl rfl)⟩

theorem pguard_of (c : PCtx) (hR : c.R = 65) (hg : c.g = 0) (d : Nat) (blk : List Tok → PR (List Sm)) (hB : BRead 118 c d blk) (a : Nat) (r : List Tok) (hr : r <:+ c.ts) (w : World) (hC : PCok c w) (hP : PAt c r w) (xb : Nat) (hX : w.heap[xb]? = some (.cells (sm00 (a : Int)).toArray 83 (0, 0))) (hne : c.pb ≠ xb) (hxn : c.n0 ≤ xb) : RetP Tryd.prog 113 [.pointer (some ⟨c.pb, 0, none⟩), .pointer (some ⟨xb, 0, none⟩), .int .i64 (d : Int)] w
    (PRes c r (guardP c.e blk a r) [c.pb, xb] w (fun s _ w' => StIn 26 83 xb w.heap.size s w')) (PErr c (guardP c.e blk a r) [c.pb, xb] w) := by
  refine retp_of [_, _, _] Tryd.func113 rfl Tryd.ntmps113 rfl ?_
  
  obtain ⟨w0, rfl⟩ : ∃ w0, w0 = w := ⟨_, rfl⟩
  have hP' := hP
  dsimp only [PAt, pcell] at hP
  have st := St.of2 [c.pb, xb] hP hX hne
  have KC : ∀ {w'}, Chg [c.pb, xb] w0 w' → PCok c w' := fun ch => hC.k2 ch hxn
  have h20 := hC.len
  have hl := suf_len hr
  have hs := guardP.eq_1 c.e blk a r
  refine vc_seq ?_
  refine vc_region ?_
  refine vc_y rfl rfl (y_mv rfl) ?_
  refine vc_y rfl rfl (y_mv rfl) ?_
  refine vc_y rfl rfl (y_mv rfl) ?_
  refine vc_e (e_callp [_] rfl rfl Tryd.call87 rfl (pname_any c hR r hr _ (KC st.chg) (by first | exact st.res (i := 0) rfl | exact st.res (i := 1) rfl | exact st.res (i := 2) rfl | exact st.res (i := 3) rfl | exact st.res (i := 4) rfl | exact st.res (i := 5) rfl | exact st.res (i := 6) rfl | exact st.res (i := 7) rfl | exact st.res (i := 8) rfl | exact st.res (i := 9) rfl)) (by rintro _ w' ⟨f, hf, rfl, ch⟩ a ha; exact And.intro ha (Or.inr ⟨_, rfl, f, by rw [hs, hf], rfl, st.chg.trans (ch.mono (by simp))⟩)) ?_)
  rintro _ w ⟨t, r1, hx, hsf, hln, hP1, cw, rfl⟩
  first
  | replace st := St.prs (b := c.pb) st 0 rfl cw (.inl (.head _)) hP1
  | replace st := St.prs (b := c.pb) st 1 rfl cw (.inl (.head _)) hP1
  | replace st := St.prs (b := c.pb) st 2 rfl cw (.inl (.head _)) hP1
  | replace st := St.prs (b := c.pb) st 3 rfl cw (.inl (.head _)) hP1
  | replace st := St.prs (b := c.pb) st 4 rfl cw (.inl (.head _)) hP1
  | replace st := St.prs (b := c.pb) st 5 rfl cw (.inl (.head _)) hP1
  | replace st := St.prs (b := c.pb) st 6 rfl cw (.inl (.head _)) hP1
  | replace st := St.prs (b := c.pb) st 7 rfl cw (.inl (.head _)) hP1
  | replace st := St.prs (b := c.pb) st 8 rfl cw (.inl (.head _)) hP1
  | replace st := St.prs (b := c.pb) st 9 rfl cw (.inl (.head _)) hP1
  dsimp only [setNth] at st
  rw [hx] at hs; dsimp only at hs
  have hr1 := hsf.trans hr
  have hsfr1 := hsf
  have hlnr1 := hln
  refine vc_y rfl rfl (y_fld rfl Tryd.underlying53 rfl rfl Tryd.isAgg9 rfl) ?_
  refine vc_y rfl rfl (y_nck rfl) ?_
  refine vc_y rfl rfl (y_fa0 rfl Tryd.underlying83 rfl rfl Tryd.sizeOf81 rfl) ?_
  first
  | refine vc_e (e_st st 0 rfl rfl rfl rfl Tryd.sizeOf81 rfl rfl (by first | (right; assumption) | (left; simp)) ?_)
  | refine vc_e (e_st st 1 rfl rfl rfl rfl Tryd.sizeOf81 rfl rfl (by first | (right; assumption) | (left; simp)) ?_)
  | refine vc_e (e_st st 2 rfl rfl rfl rfl Tryd.sizeOf81 rfl rfl (by first | (right; assumption) | (left; simp)) ?_)
  | refine vc_e (e_st st 3 rfl rfl rfl rfl Tryd.sizeOf81 rfl rfl (by first | (right; assumption) | (left; simp)) ?_)
  | refine vc_e (e_st st 4 rfl rfl rfl rfl Tryd.sizeOf81 rfl rfl (by first | (right; assumption) | (left; simp)) ?_)
  | refine vc_e (e_st st 5 rfl rfl rfl rfl Tryd.sizeOf81 rfl rfl (by first | (right; assumption) | (left; simp)) ?_)
  | refine vc_e (e_st st 6 rfl rfl rfl rfl Tryd.sizeOf81 rfl rfl (by first | (right; assumption) | (left; simp)) ?_)
  | refine vc_e (e_st st 7 rfl rfl rfl rfl Tryd.sizeOf81 rfl rfl (by first | (right; assumption) | (left; simp)) ?_)
  | refine vc_e (e_st st 8 rfl rfl rfl rfl Tryd.sizeOf81 rfl rfl (by first | (right; assumption) | (left; simp)) ?_)
  intro w st; dsimp only [setNth, wr] at st
  refine vc_y rfl rfl (y_nck rfl) ?_
  refine vc_y rfl rfl ((by first | exact y_faz (k := 1) rfl Tryd.underlying83 rfl rfl Tryd.sizeOf9 rfl | exact y_fa (k := 1) rfl Tryd.underlying83 rfl rfl Tryd.sizeOf9 rfl)) ?_
  first
  | refine vc_e (e_st st 0 rfl rfl rfl rfl Tryd.sizeOf9 rfl rfl (by first | (right; assumption) | (left; simp)) ?_)
  | refine vc_e (e_st st 1 rfl rfl rfl rfl Tryd.sizeOf9 rfl rfl (by first | (right; assumption) | (left; simp)) ?_)
  | refine vc_e (e_st st 2 rfl rfl rfl rfl Tryd.sizeOf9 rfl rfl (by first | (right; assumption) | (left; simp)) ?_)
  | refine vc_e (e_st st 3 rfl rfl rfl rfl Tryd.sizeOf9 rfl rfl (by first | (right; assumption) | (left; simp)) ?_)
  | refine vc_e (e_st st 4 rfl rfl rfl rfl Tryd.sizeOf9 rfl rfl (by first | (right; assumption) | (left; simp)) ?_)
  | refine vc_e (e_st st 5 rfl rfl rfl rfl Tryd.sizeOf9 rfl rfl (by first | (right; assumption) | (left; simp)) ?_)
  | refine vc_e (e_st st 6 rfl rfl rfl rfl Tryd.sizeOf9 rfl rfl (by first | (right; assumption) | (left; simp)) ?_)
  | refine vc_e (e_st st 7 rfl rfl rfl rfl Tryd.sizeOf9 rfl rfl (by first | (right; assumption) | (left; simp)) ?_)
  | refine vc_e (e_st st 8 rfl rfl rfl rfl Tryd.sizeOf9 rfl rfl (by first | (right; assumption) | (left; simp)) ?_)
  intro w st; dsimp only [setNth, wr] at st
  refine vc_end ?_
  refine vq_then ?_
  refine vc_keep [(0, _), (1, _), (2, _)] ⟨rfl, rfl, rfl, trivial⟩ ?_
  refine vc_region ?_
  refine vc_y rfl rfl (y_mv rfl) ?_
  refine vc_y rfl rfl (y_mv rfl) ?_
  refine vc_y rfl rfl (y_mv rfl) ?_
  refine vc_e (e_callp [_, _] rfl rfl Tryd.call118 rfl (hB r1 hr1 _ (KC st.chg) (by first | exact st.res (i := 0) rfl | exact st.res (i := 1) rfl | exact st.res (i := 2) rfl | exact st.res (i := 3) rfl | exact st.res (i := 4) rfl | exact st.res (i := 5) rfl | exact st.res (i := 6) rfl | exact st.res (i := 7) rfl | exact st.res (i := 8) rfl | exact st.res (i := 9) rfl)) (by rintro _ w' ⟨f, hf, rfl, ch⟩ a ha; exact And.intro ha (Or.inr ⟨_, rfl, f, by rw [hs, hf], rfl, st.chg.trans (ch.mono (by simp))⟩)) ?_)
  rintro _ w ⟨l1, r2, hx, hsfr2, hlnr2, hP1, cw, ob, cb, Sb, rfl, hQ, hN⟩
  have hNSb := hN.le st.chg.size
  first
  | replace st := St.prsT (b := c.pb) st 0 rfl cw (.inl (.head _)) hP1 (holds_sm hQ) hN.2
  | replace st := St.prsT (b := c.pb) st 1 rfl cw (.inl (.head _)) hP1 (holds_sm hQ) hN.2
  | replace st := St.prsT (b := c.pb) st 2 rfl cw (.inl (.head _)) hP1 (holds_sm hQ) hN.2
  | replace st := St.prsT (b := c.pb) st 3 rfl cw (.inl (.head _)) hP1 (holds_sm hQ) hN.2
  | replace st := St.prsT (b := c.pb) st 4 rfl cw (.inl (.head _)) hP1 (holds_sm hQ) hN.2
  | replace st := St.prsT (b := c.pb) st 5 rfl cw (.inl (.head _)) hP1 (holds_sm hQ) hN.2
  | replace st := St.prsT (b := c.pb) st 6 rfl cw (.inl (.head _)) hP1 (holds_sm hQ) hN.2
  | replace st := St.prsT (b := c.pb) st 7 rfl cw (.inl (.head _)) hP1 (holds_sm hQ) hN.2
  | replace st := St.prsT (b := c.pb) st 8 rfl cw (.inl (.head _)) hP1 (holds_sm hQ) hN.2
  | replace st := St.prsT (b := c.pb) st 9 rfl cw (.inl (.head _)) hP1 (holds_sm hQ) hN.2
  dsimp only [setNth] at st
  rw [hx] at hs; dsimp only at hs
  have hr2 := hsfr2.trans hr1
  refine vc_y rfl rfl (y_nck rfl) ?_
  refine vc_y rfl rfl ((by first | exact y_faz (k := 4) rfl Tryd.underlying83 rfl rfl Tryd.sizeOf76 rfl | exact y_fa (k := 4) rfl Tryd.underlying83 rfl rfl Tryd.sizeOf76 rfl)) ?_
  first
  | refine vc_e (e_st st 0 rfl rfl rfl rfl Tryd.sizeOf76 rfl rfl (by first | (right; assumption) | (left; simp)) ?_)
  | refine vc_e (e_st st 1 rfl rfl rfl rfl Tryd.sizeOf76 rfl rfl (by first | (right; assumption) | (left; simp)) ?_)
  | refine vc_e (e_st st 2 rfl rfl rfl rfl Tryd.sizeOf76 rfl rfl (by first | (right; assumption) | (left; simp)) ?_)
  | refine vc_e (e_st st 3 rfl rfl rfl rfl Tryd.sizeOf76 rfl rfl (by first | (right; assumption) | (left; simp)) ?_)
  | refine vc_e (e_st st 4 rfl rfl rfl rfl Tryd.sizeOf76 rfl rfl (by first | (right; assumption) | (left; simp)) ?_)
  | refine vc_e (e_st st 5 rfl rfl rfl rfl Tryd.sizeOf76 rfl rfl (by first | (right; assumption) | (left; simp)) ?_)
  | refine vc_e (e_st st 6 rfl rfl rfl rfl Tryd.sizeOf76 rfl rfl (by first | (right; assumption) | (left; simp)) ?_)
  | refine vc_e (e_st st 7 rfl rfl rfl rfl Tryd.sizeOf76 rfl rfl (by first | (right; assumption) | (left; simp)) ?_)
  | refine vc_e (e_st st 8 rfl rfl rfl rfl Tryd.sizeOf76 rfl rfl (by first | (right; assumption) | (left; simp)) ?_)
  intro w st; dsimp only [setNth, wr] at st
  refine vc_end ?_
  refine vq_ret0 (.inr rfl) Tryd.results113 ?_
  refine .inl ⟨_, rfl, ?_⟩
  exact ⟨_, r2, hs, hsfr2.trans hsfr1, by omega, (by first | exact st.res (i := 0) rfl | exact st.res (i := 1) rfl | exact st.res (i := 2) rfl | exact st.res (i := 3) rfl | exact st.res (i := 4) rfl | exact st.res (i := 5) rfl | exact st.res (i := 6) rfl | exact st.res (i := 7) rfl | exact st.res (i := 8) rfl | exact st.res (i := 9) rfl), st.chg, none, ob, none, 0, cb, 0, [], Sb, [], (by first | exact st.res (i := 0) rfl | exact st.res (i := 1) rfl | exact st.res (i := 2) rfl | exact st.res (i := 3) rfl | exact st.res (i := 4) rfl | exact st.res (i := 5) rfl | exact st.res (i := 6) rfl | exact st.res (i := 7) rfl | exact st.res (i := 8) rfl | exact st.res (i := 9) rfl | exact st.res (i := 10) rfl | exact st.res (i := 11) rfl), exr_nil, (st.res (i := 0) rfl).1, smr_nil, by simpa using hNSb⟩

/-- what statements begin with, and what reads what follows -/
abbrev formsL (c : PCtx) : List (Wd × Value) := [(wIf, .func (.func 111) [.pointer (some ⟨c.pb, 0, none⟩)].toArray #[]), (wWhile, .func (.func 112) [.pointer (some ⟨c.pb, 0, none⟩)].toArray #[]), (wLock, .func (.func 113) [.pointer (some ⟨c.pb, 0, none⟩)].toArray #[]), (wPrint, .func (.func 114) [.pointer (some ⟨c.pb, 0, none⟩)].toArray #[]), (wSkip, .func (.func 115) [.pointer (some ⟨c.pb, 0, none⟩)].toArray #[])]

theorem pforms_any (c : PCtx) (w : World) : Ret Tryd.prog 107 [.pointer (some ⟨c.pb, 0, none⟩)] w fun v w' => ∃ b, v = .map (some b) ∧ w.heap.size ≤ b ∧ w'.heap[b]? = some (mapF (formsL c)) ∧ Chg [] w w' := by
  refine ret_of [_] Tryd.func107 rfl Tryd.ntmps107 rfl ?_
  have st := St.init w []
  obtain ⟨w0, rfl⟩ : ∃ w0, w0 = w := ⟨_, rfl⟩
  refine vc_seq ?_
  refine vc_region ?_
  refine vc_y rfl rfl (y_as rfl) ?_
  refine vc_end ?_
  refine vq_then ?_
  refine vc_keep [(0, _)] ⟨rfl, trivial⟩ ?_
  refine vc_seq ?_
  refine vc_region ?_
  refine vc_e (e_mkF st rfl rfl ?_)
  intro b3 w hb3 st
  refine vc_y rfl rfl (y_mv rfl) ?_
  refine vc_y rfl rfl (y_mf [_] [] rfl rfl) ?_
  refine vc_e (e_inF st 0 rfl rfl rfl rfl rfl (by first | (right; assumption) | (left; simp)) Tryd.underlying139 Tryd.underlying9 (by simp [getF]) ?_)
  intro w st; dsimp only [setNth, List.cons_append, List.nil_append] at st
  refine vc_y rfl rfl (y_mv rfl) ?_
  refine vc_y rfl rfl (y_mf [_] [] rfl rfl) ?_
  refine vc_e (e_inF st 0 rfl rfl rfl rfl rfl (by first | (right; assumption) | (left; simp)) Tryd.underlying139 Tryd.underlying9 (by simp [getF]) ?_)
  intro w st; dsimp only [setNth, List.cons_append, List.nil_append] at st
  refine vc_y rfl rfl (y_mv rfl) ?_
  refine vc_y rfl rfl (y_mf [_] [] rfl rfl) ?_
  refine vc_e (e_inF st 0 rfl rfl rfl rfl rfl (by first | (right; assumption) | (left; simp)) Tryd.underlying139 Tryd.underlying9 (by simp [getF]) ?_)
  intro w st; dsimp only [setNth, List.cons_append, List.nil_append] at st
  refine vc_y rfl rfl (y_mv rfl) ?_
  refine vc_y rfl rfl (y_mf [_] [] rfl rfl) ?_
  refine vc_e (e_inF st 0 rfl rfl rfl rfl rfl (by first | (right; assumption) | (left; simp)) Tryd.underlying139 Tryd.underlying9 (by simp [getF]) ?_)
  intro w st; dsimp only [setNth, List.cons_append, List.nil_append] at st
  refine vc_y rfl rfl (y_mv rfl) ?_
  refine vc_y rfl rfl (y_mf [_] [] rfl rfl) ?_
  refine vc_e (e_inF st 0 rfl rfl rfl rfl rfl (by first | (right; assumption) | (left; simp)) Tryd.underlying139 Tryd.underlying9 (by simp [getF]) ?_)
  intro w st; dsimp only [setNth, List.cons_append, List.nil_append] at st
  refine vc_y rfl rfl (y_mv rfl) ?_
  refine vc_y rfl rfl (y_as rfl) ?_
  refine vc_end ?_
  refine vq_then ?_
  refine vc_keep [(2, _)] ⟨rfl, trivial⟩ ?_
  refine vc_ret ?_
  refine vq_ret1 st (.inl rfl) Tryd.results107 (.tmp rfl) ?_
  refine ⟨_, rfl, ?_⟩
  exact ⟨b3, rfl, hb3, st.res (i := 0) rfl, st.chg⟩

set_option maxHeartbeats 2000000 in
theorem pstmt_of (c : PCtx) (hR : c.R = 65) (hg : c.g = 0) (d : Nat) (blk : List Tok → PR (List Sm)) (hB : BRead 118 c d blk) : SRead c d (stmtW c.e blk) := by
  intro r hr w hC hP
  refine retp_of [_, _] Tryd.func97 rfl Tryd.ntmps97 rfl ?_
  
  obtain ⟨w0, rfl⟩ : ∃ w0, w0 = w := ⟨_, rfl⟩
  have hP' := hP
  dsimp only [PAt, pcell] at hP
  have st := St.of1 [c.pb] hP
  have h20 := hC.len
  have hl := suf_len hr
  have hs := stmtW_eq c.e blk r
  refine vc_seq ?_
  refine vc_region ?_
  refine vc_e (e_al (l := [_, _, _, _, _, _, _]) st rfl rfl Tryd.zeroValue83 rfl ?_)
  intro b4 w hb4 st
  refine vc_end ?_
  refine vq_then ?_
  refine vc_keep [(0, _), (1, _), (4, _)] ⟨rfl, rfl, rfl, trivial⟩ ?_
  refine vc_seq ?_
  refine vc_region ?_
  refine vc_y rfl rfl (y_mv rfl) ?_
  refine vc_e (e_call [_] rfl rfl Tryd.call61 rfl (pat_any c r hr _ (hC.k1 st.chg) (by first | exact st.res (i := 0) rfl | exact st.res (i := 1) rfl | exact st.res (i := 2) rfl | exact st.res (i := 3) rfl | exact st.res (i := 4) rfl | exact st.res (i := 5) rfl | exact st.res (i := 6) rfl | exact st.res (i := 7) rfl | exact st.res (i := 8) rfl | exact st.res (i := 9) rfl)) ?_)
  rintro _ w ⟨rfl, cw⟩
  replace st := st.call0 cw
  refine vc_y rfl rfl (y_bld (.agg #[_, _, _, _, _, _, _]) [(6, _)] rfl (fun w => by simp [Instr.build, go_sem] <;> repeat' constructor)) ?_
  refine vc_e (e_al (l := [_, _, _, _, _, _, _]) st rfl rfl Tryd.zeroValue83 rfl ?_)
  intro b5 w hb5 st
  first
  | refine vc_e (e_sts (vs := [_, _, _, _, _, _, _]) st 0 rfl rfl rfl rfl rfl Tryd.sizeOf83 rfl rfl (by first | (right; assumption) | (left; simp)) ?_)
  | refine vc_e (e_sts (vs := [_, _, _, _, _, _, _]) st 1 rfl rfl rfl rfl rfl Tryd.sizeOf83 rfl rfl (by first | (right; assumption) | (left; simp)) ?_)
  | refine vc_e (e_sts (vs := [_, _, _, _, _, _, _]) st 2 rfl rfl rfl rfl rfl Tryd.sizeOf83 rfl rfl (by first | (right; assumption) | (left; simp)) ?_)
  | refine vc_e (e_sts (vs := [_, _, _, _, _, _, _]) st 3 rfl rfl rfl rfl rfl Tryd.sizeOf83 rfl rfl (by first | (right; assumption) | (left; simp)) ?_)
  | refine vc_e (e_sts (vs := [_, _, _, _, _, _, _]) st 4 rfl rfl rfl rfl rfl Tryd.sizeOf83 rfl rfl (by first | (right; assumption) | (left; simp)) ?_)
  | refine vc_e (e_sts (vs := [_, _, _, _, _, _, _]) st 5 rfl rfl rfl rfl rfl Tryd.sizeOf83 rfl rfl (by first | (right; assumption) | (left; simp)) ?_)
  | refine vc_e (e_sts (vs := [_, _, _, _, _, _, _]) st 6 rfl rfl rfl rfl rfl Tryd.sizeOf83 rfl rfl (by first | (right; assumption) | (left; simp)) ?_)
  | refine vc_e (e_sts (vs := [_, _, _, _, _, _, _]) st 7 rfl rfl rfl rfl rfl Tryd.sizeOf83 rfl rfl (by first | (right; assumption) | (left; simp)) ?_)
  | refine vc_e (e_sts (vs := [_, _, _, _, _, _, _]) st 8 rfl rfl rfl rfl rfl Tryd.sizeOf83 rfl rfl (by first | (right; assumption) | (left; simp)) ?_)
  intro w st; dsimp only [setNth, wr] at st
  refine vc_end ?_
  refine vq_then ?_
  refine vc_keep [(0, _), (1, _), (4, _), (5, _)] ⟨rfl, rfl, rfl, rfl, trivial⟩ ?_
  refine vc_seq ?_
  refine vc_region ?_
  have hpx : c.pb ≠ b5 := st.bne 2 0 (by decide) rfl rfl
  refine vc_y rfl rfl (y_mv rfl) ?_
  refine vc_e (e_call [_] rfl rfl Tryd.call58 rfl (phere_any c r hr _ (hC.k1 st.chg) (by first | exact st.res (i := 0) rfl | exact st.res (i := 1) rfl | exact st.res (i := 2) rfl | exact st.res (i := 3) rfl | exact st.res (i := 4) rfl | exact st.res (i := 5) rfl | exact st.res (i := 6) rfl | exact st.res (i := 7) rfl | exact st.res (i := 8) rfl | exact st.res (i := 9) rfl)) ?_)
  rintro _ w ⟨rfl, cw⟩
  replace st := st.call0 cw
  refine vc_e (e_al (l := [_, _, _, _]) st rfl rfl Tryd.zeroValue53 rfl ?_)
  intro b6 w hb6 st
  first
  | refine vc_e (e_sts (vs := [_, _, _, _]) st 0 rfl rfl rfl rfl rfl Tryd.sizeOf53 rfl rfl (by first | (right; assumption) | (left; simp)) ?_)
  | refine vc_e (e_sts (vs := [_, _, _, _]) st 1 rfl rfl rfl rfl rfl Tryd.sizeOf53 rfl rfl (by first | (right; assumption) | (left; simp)) ?_)
  | refine vc_e (e_sts (vs := [_, _, _, _]) st 2 rfl rfl rfl rfl rfl Tryd.sizeOf53 rfl rfl (by first | (right; assumption) | (left; simp)) ?_)
  | refine vc_e (e_sts (vs := [_, _, _, _]) st 3 rfl rfl rfl rfl rfl Tryd.sizeOf53 rfl rfl (by first | (right; assumption) | (left; simp)) ?_)
  | refine vc_e (e_sts (vs := [_, _, _, _]) st 4 rfl rfl rfl rfl rfl Tryd.sizeOf53 rfl rfl (by first | (right; assumption) | (left; simp)) ?_)
  | refine vc_e (e_sts (vs := [_, _, _, _]) st 5 rfl rfl rfl rfl rfl Tryd.sizeOf53 rfl rfl (by first | (right; assumption) | (left; simp)) ?_)
  | refine vc_e (e_sts (vs := [_, _, _, _]) st 6 rfl rfl rfl rfl rfl Tryd.sizeOf53 rfl rfl (by first | (right; assumption) | (left; simp)) ?_)
  | refine vc_e (e_sts (vs := [_, _, _, _]) st 7 rfl rfl rfl rfl rfl Tryd.sizeOf53 rfl rfl (by first | (right; assumption) | (left; simp)) ?_)
  | refine vc_e (e_sts (vs := [_, _, _, _]) st 8 rfl rfl rfl rfl rfl Tryd.sizeOf53 rfl rfl (by first | (right; assumption) | (left; simp)) ?_)
  intro w st; dsimp only [setNth, wr] at st
  refine vc_end ?_
  refine vq_then ?_
  refine vc_keep [(0, _), (1, _), (4, _), (5, _), (6, _)] ⟨rfl, rfl, rfl, rfl, rfl, trivial⟩ ?_
  refine vc_seq ?_
  refine vc_seq ?_
  refine vc_draw Tryd.mixed [(0, true), (2, true), (3, true), (1, false), (4, false), (5, true), (6, true), (7, true), (8, true), (9, true)] (fun w => St _ _ [.blk b6 (.cells (tkL (here r)).toArray 53 (0, 0))] w) (by first | exact st | exact st.drop (by repeat (first | exact List.Sublist.slnil | apply List.Sublist.cons_cons | apply List.Sublist.cons))) (by kernel_rfl) (by repeat (first | exact okQ_body | refine okQ_then ?_ | refine okQ_block ?_)) rfl (by kernel_rfl) ?_
  intro w cd; replace st := st.call0 cd; clear cd
  have hS : St _ _ [.blk b6 (.cells (tkL (here r)).toArray 53 (0, 0))] w := (by first | exact st | exact st.drop (by repeat (first | exact List.Sublist.slnil | apply List.Sublist.cons_cons | apply List.Sublist.cons)))
  refine vp_take rfl rfl rfl hS (fun w st => y_mv rfl) ?_
  refine vp_take rfl rfl rfl hS (fun w st => (by first | exact y_faz (k := 1) rfl Tryd.underlying53 rfl rfl Tryd.sizeOf9 rfl | exact y_fa (k := 1) rfl Tryd.underlying53 rfl rfl Tryd.sizeOf9 rfl)) ?_
  refine vp_take rfl rfl rfl hS (fun w st => (by first | exact y_ld st 0 rfl Tryd.isAgg9 rfl rfl | exact y_ld st 1 rfl Tryd.isAgg9 rfl rfl | exact y_ld st 2 rfl Tryd.isAgg9 rfl rfl | exact y_ld st 3 rfl Tryd.isAgg9 rfl rfl | exact y_ld st 4 rfl Tryd.isAgg9 rfl rfl | exact y_ld st 5 rfl Tryd.isAgg9 rfl rfl | exact y_ld st 6 rfl Tryd.isAgg9 rfl rfl | exact y_ld st 7 rfl Tryd.isAgg9 rfl rfl | exact y_ld st 8 rfl Tryd.isAgg9 rfl rfl)) ?_
  refine vp_do rfl (e_call [_] rfl rfl Tryd.call107 rfl (pforms_any c _) ?_)
  rintro _ w ⟨bm, rfl, hbm, hMp, cw⟩
  replace st := St.pushR (r := .blk bm (mapF (formsL c))) st cw hMp (by simpa [Res.at?] using hbm)
  refine vp_next (by first | exact st | exact st.drop (by repeat (first | exact List.Sublist.slnil | apply List.Sublist.cons_cons | apply List.Sublist.cons))) ?_; intro hS
  refine vp_do rfl (e_lkF st 0 rfl rfl rfl rfl rfl Tryd.underlying139 Tryd.underlying9 Tryd.zeroValue137 ?_)
  refine vp_next (by first | exact st | exact st.drop (by repeat (first | exact List.Sublist.slnil | apply List.Sublist.cons_cons | apply List.Sublist.cons))) ?_; intro hS
  refine vp_take rfl rfl rfl hS (fun w st => y_mv rfl) ?_
  refine vp_take rfl rfl rfl hS (fun w st => y_ext rfl rfl) ?_
  refine vp_take rfl rfl rfl hS (fun w st => y_ext rfl rfl) ?_
  refine vp_take rfl rfl rfl hS (fun w st => y_as rfl) ?_
  refine vp_take rfl rfl rfl hS (fun w st => y_as rfl) ?_
  refine vp_end ?_
  refine vq_then ?_
  refine vc_keep [(0, _), (1, _), (4, _), (5, _), (6, _), (7, _), (8, _)] ⟨rfl, rfl, rfl, rfl, rfl, rfl, rfl, trivial⟩ ?_
  refine vc_seq ?_
  refine vc_region ?_
  refine vc_y rfl rfl (y_mv rfl) ?_
  refine vc_e (e_mvb rfl rfl rfl ?_ ?_)
  · intro hg23
    try simp only [decide_eq_true_eq, decide_eq_false_iff_not, Bool.not_eq_true', Bool.not_eq_false', Bool.not_eq_true, Bool.not_eq_false, Int.not_lt, Int.not_le, Nat.not_lt, Nat.not_le, Bool.not_true, Bool.not_false, Bool.true_eq_false, Bool.false_eq_true] at hg23
    refine vc_y rfl rfl (y_fa0 rfl Tryd.underlying53 rfl rfl Tryd.sizeOf51 rfl) ?_
    refine vc_y rfl rfl ((by first | exact y_ld st 0 rfl Tryd.isAgg51 rfl rfl | exact y_ld st 1 rfl Tryd.isAgg51 rfl rfl | exact y_ld st 2 rfl Tryd.isAgg51 rfl rfl | exact y_ld st 3 rfl Tryd.isAgg51 rfl rfl | exact y_ld st 4 rfl Tryd.isAgg51 rfl rfl | exact y_ld st 5 rfl Tryd.isAgg51 rfl rfl | exact y_ld st 6 rfl Tryd.isAgg51 rfl rfl | exact y_ld st 7 rfl Tryd.isAgg51 rfl rfl | exact y_ld st 8 rfl Tryd.isAgg51 rfl rfl)) ?_
    refine vc_y rfl rfl (y_eqi rfl rfl) ?_
    refine vc_y rfl rfl (y_pickt rfl rfl) ?_
    refine vc_end ?_
    refine vq_then ?_
    refine vc_keep [(0, _), (1, _), (4, _), (5, _), (7, _), (27, _)] ⟨rfl, rfl, rfl, rfl, rfl, rfl, trivial⟩ ?_
    refine vc_ifs rfl ?_ ?_
    · intro hc27
      try simp only [decide_eq_true_eq, decide_eq_false_iff_not, Bool.not_eq_true', Bool.not_eq_false', Bool.not_eq_true, Bool.not_eq_false, Int.not_lt, Int.not_le, Nat.not_lt, Nat.not_le, Bool.not_true, Bool.not_false, Bool.true_eq_false, Bool.false_eq_true] at hc27
      refine vc_seq ?_
      refine vc_region ?_
      refine vc_y rfl rfl (y_mv rfl) ?_
      refine vc_e (e_call [_] rfl rfl Tryd.call60 rfl (pnext_any c r hr (kind_ne (k := 2) (by omega) (by decide)) _ (hC.k1 st.chg) (by first | exact st.res (i := 0) rfl | exact st.res (i := 1) rfl | exact st.res (i := 2) rfl | exact st.res (i := 3) rfl | exact st.res (i := 4) rfl | exact st.res (i := 5) rfl | exact st.res (i := 6) rfl | exact st.res (i := 7) rfl | exact st.res (i := 8) rfl | exact st.res (i := 9) rfl)) ?_)
      rintro _ w ⟨rfl, hP1, cw⟩
      first
      | replace st := St.prs (b := c.pb) st 0 rfl cw (.inl (.head _)) hP1
      | replace st := St.prs (b := c.pb) st 1 rfl cw (.inl (.head _)) hP1
      | replace st := St.prs (b := c.pb) st 2 rfl cw (.inl (.head _)) hP1
      | replace st := St.prs (b := c.pb) st 3 rfl cw (.inl (.head _)) hP1
      | replace st := St.prs (b := c.pb) st 4 rfl cw (.inl (.head _)) hP1
      | replace st := St.prs (b := c.pb) st 5 rfl cw (.inl (.head _)) hP1
      | replace st := St.prs (b := c.pb) st 6 rfl cw (.inl (.head _)) hP1
      | replace st := St.prs (b := c.pb) st 7 rfl cw (.inl (.head _)) hP1
      | replace st := St.prs (b := c.pb) st 8 rfl cw (.inl (.head _)) hP1
      | replace st := St.prs (b := c.pb) st 9 rfl cw (.inl (.head _)) hP1
      dsimp only [setNth] at st
      refine vc_end ?_
      refine vq_then ?_
      refine vc_keep [(1, _), (4, _), (5, _), (7, _)] ⟨rfl, rfl, rfl, rfl, trivial⟩ ?_
      refine vc_seq ?_
      refine vc_region ?_
      refine vc_y rfl rfl (y_mv rfl) ?_
      refine vc_y rfl rfl (y_mv rfl) ?_
      have hkd : (here r).kind = 2 := by omega
      have hlt := tail_lt (kind_ne hkd (by decide))
      rcases getF5 (v1 := (.func (.func 111) [.pointer (some ⟨c.pb, 0, none⟩)].toArray #[])) (v2 := (.func (.func 112) [.pointer (some ⟨c.pb, 0, none⟩)].toArray #[])) (v3 := (.func (.func 113) [.pointer (some ⟨c.pb, 0, none⟩)].toArray #[])) (v4 := (.func (.func 114) [.pointer (some ⟨c.pb, 0, none⟩)].toArray #[])) (v5 := (.func (.func 115) [.pointer (some ⟨c.pb, 0, none⟩)].toArray #[])) (here r).text with ⟨he1, he2⟩ | ⟨he1, he2⟩ | ⟨he1, he2⟩ | ⟨he1, he2⟩ | ⟨he1, he2⟩ | ⟨he1, he2⟩
      rotate_right 1
      · exfalso; rw [he2] at hg23; cases hg23
      · have hform : formT (here r) wIf = true := by unfold formT; simp [he1, hkd]
        rw [if_pos hform] at hs
        refine vc_e (e_callvp (f := 111) (first := [.pointer (some ⟨c.pb, 0, none⟩)]) (captured := []) [_, _] rfl rfl (by show some _ = some _; rw [he2]; rfl) Tryd.call111 rfl (pchoice_of c hR hg d blk hB (atT c.e r) r.tail (suf_tail hr) _ (hC.k1 st.chg) (st.res (i := 4) rfl) b5 (st.res (i := 2) rfl) hpx (Nat.le_trans hC.le hb5)) (by
          rintro _ w' ⟨f, hf, rfl, ch⟩ a ha
          exact And.intro ha (Or.inr ⟨_, rfl, f, by rw [hs, hf], rfl, st.chg.trans' ch (fun k hk => by
            rcases List.mem_cons.1 hk with rfl | hk
            · exact .inl (.head _)
            · exact .inr (by simp at hk; subst hk; exact hb5))⟩)) ?_)
        rintro _ w ⟨s, r2, hx, hsfr2, hlnr2, hP1, cw, oe, ob, ol, ce, cb, cl, Se, Sb, Sl, hX2, hE2, hB2, hL2, hN2⟩
        rw [hx] at hs
        have hN3 := hN2.le st.chg.size
        have hS2 : SmS 26 83 w s (smC s oe ob ol ce cb cl) (Se ++ (Sb ++ Sl)) := SmS_iff.2 ⟨oe, ce, ob, cb, ol, cl, Se, Sb, Sl, rfl, hE2, hB2, hL2, rfl⟩
        replace st := (st.pick [4, 2, 0, 1, 3] rfl (by decide)).prs2 cw (.inl (.head _)) (.inr hb5) hP1 hX2 (holds_sms hS2) hN2.2
        refine vc_end ?_
        refine vq_then ?_
        refine vc_keep [(4, _), (5, _)] ⟨rfl, rfl, trivial⟩ ?_
        refine vc_seq ?_
        refine vc_region ?_
        refine vc_y rfl rfl ((by first | exact y_lda (vs := [_, _, _, _, _, _, _]) st 0 rfl Tryd.isAgg83 Tryd.sizeOf83 rfl rfl | exact y_lda (vs := [_, _, _, _, _, _, _]) st 1 rfl Tryd.isAgg83 Tryd.sizeOf83 rfl rfl | exact y_lda (vs := [_, _, _, _, _, _, _]) st 2 rfl Tryd.isAgg83 Tryd.sizeOf83 rfl rfl | exact y_lda (vs := [_, _, _, _, _, _, _]) st 3 rfl Tryd.isAgg83 Tryd.sizeOf83 rfl rfl | exact y_lda (vs := [_, _, _, _, _, _, _]) st 4 rfl Tryd.isAgg83 Tryd.sizeOf83 rfl rfl | exact y_lda (vs := [_, _, _, _, _, _, _]) st 5 rfl Tryd.isAgg83 Tryd.sizeOf83 rfl rfl | exact y_lda (vs := [_, _, _, _, _, _, _]) st 6 rfl Tryd.isAgg83 Tryd.sizeOf83 rfl rfl | exact y_lda (vs := [_, _, _, _, _, _, _]) st 7 rfl Tryd.isAgg83 Tryd.sizeOf83 rfl rfl | exact y_lda (vs := [_, _, _, _, _, _, _]) st 8 rfl Tryd.isAgg83 Tryd.sizeOf83 rfl rfl)) ?_
        first
        | refine vc_e (e_sts (vs := [_, _, _, _, _, _, _]) st 0 rfl rfl rfl rfl rfl Tryd.sizeOf83 rfl rfl (by first | (right; assumption) | (left; simp)) ?_)
        | refine vc_e (e_sts (vs := [_, _, _, _, _, _, _]) st 1 rfl rfl rfl rfl rfl Tryd.sizeOf83 rfl rfl (by first | (right; assumption) | (left; simp)) ?_)
        | refine vc_e (e_sts (vs := [_, _, _, _, _, _, _]) st 2 rfl rfl rfl rfl rfl Tryd.sizeOf83 rfl rfl (by first | (right; assumption) | (left; simp)) ?_)
        | refine vc_e (e_sts (vs := [_, _, _, _, _, _, _]) st 3 rfl rfl rfl rfl rfl Tryd.sizeOf83 rfl rfl (by first | (right; assumption) | (left; simp)) ?_)
        | refine vc_e (e_sts (vs := [_, _, _, _, _, _, _]) st 4 rfl rfl rfl rfl rfl Tryd.sizeOf83 rfl rfl (by first | (right; assumption) | (left; simp)) ?_)
        | refine vc_e (e_sts (vs := [_, _, _, _, _, _, _]) st 5 rfl rfl rfl rfl rfl Tryd.sizeOf83 rfl rfl (by first | (right; assumption) | (left; simp)) ?_)
        | refine vc_e (e_sts (vs := [_, _, _, _, _, _, _]) st 6 rfl rfl rfl rfl rfl Tryd.sizeOf83 rfl rfl (by first | (right; assumption) | (left; simp)) ?_)
        | refine vc_e (e_sts (vs := [_, _, _, _, _, _, _]) st 7 rfl rfl rfl rfl rfl Tryd.sizeOf83 rfl rfl (by first | (right; assumption) | (left; simp)) ?_)
        | refine vc_e (e_sts (vs := [_, _, _, _, _, _, _]) st 8 rfl rfl rfl rfl rfl Tryd.sizeOf83 rfl rfl (by first | (right; assumption) | (left; simp)) ?_)
        intro w st; dsimp only [setNth, wr] at st
        refine vc_end ?_
        refine vq_then ?_
        refine vc_keep [(4, _)] ⟨rfl, trivial⟩ ?_
        refine vc_ret ?_
        refine vq_then_ret ?_
        refine vq_ret1 st (.inl rfl) Tryd.results97 (by first | exact .cell 0 rfl rfl Tryd.isAgg83 Tryd.sizeOf83 | exact .cell 1 rfl rfl Tryd.isAgg83 Tryd.sizeOf83 | exact .cell 2 rfl rfl Tryd.isAgg83 Tryd.sizeOf83 | exact .cell 3 rfl rfl Tryd.isAgg83 Tryd.sizeOf83 | exact .cell 4 rfl rfl Tryd.isAgg83 Tryd.sizeOf83 | exact .cell 5 rfl rfl Tryd.isAgg83 Tryd.sizeOf83 | exact .cell 6 rfl rfl Tryd.isAgg83 Tryd.sizeOf83 | exact .cell 7 rfl rfl Tryd.isAgg83 Tryd.sizeOf83 | exact .cell 8 rfl rfl Tryd.isAgg83 Tryd.sizeOf83) ?_
        refine .inl ⟨_, rfl, ?_⟩
        exact ⟨s, r2, hs, hsfr2.trans (List.tail_suffix _), by omega, (by first | exact st.res (i := 0) rfl | exact st.res (i := 1) rfl | exact st.res (i := 2) rfl | exact st.res (i := 3) rfl | exact st.res (i := 4) rfl | exact st.res (i := 5) rfl | exact st.res (i := 6) rfl | exact st.res (i := 7) rfl | exact st.res (i := 8) rfl | exact st.res (i := 9) rfl), st.chg, oe, ob, ol, ce, cb, cl, _, rfl, (st.res (i := 0) rfl).1, hN3⟩
      · have hform : formT (here r) wWhile = true := by unfold formT; simp [he1, hkd]
        rw [if_neg (form_ne (s := wIf) he1 (by decide)), if_pos hform] at hs
        refine vc_e (e_callvp (f := 112) (first := [.pointer (some ⟨c.pb, 0, none⟩)]) (captured := []) [_, _] rfl rfl (by show some _ = some _; rw [he2]; rfl) Tryd.call112 rfl (ploop_of c hR hg d blk hB (atT c.e r) r.tail (suf_tail hr) _ (hC.k1 st.chg) (st.res (i := 4) rfl) b5 (st.res (i := 2) rfl) hpx (Nat.le_trans hC.le hb5)) (by
          rintro _ w' ⟨f, hf, rfl, ch⟩ a ha
          exact And.intro ha (Or.inr ⟨_, rfl, f, by rw [hs, hf], rfl, st.chg.trans' ch (fun k hk => by
            rcases List.mem_cons.1 hk with rfl | hk
            · exact .inl (.head _)
            · exact .inr (by simp at hk; subst hk; exact hb5))⟩)) ?_)
        rintro _ w ⟨s, r2, hx, hsfr2, hlnr2, hP1, cw, oe, ob, ol, ce, cb, cl, Se, Sb, Sl, hX2, hE2, hB2, hL2, hN2⟩
        rw [hx] at hs
        have hN3 := hN2.le st.chg.size
        have hS2 : SmS 26 83 w s (smC s oe ob ol ce cb cl) (Se ++ (Sb ++ Sl)) := SmS_iff.2 ⟨oe, ce, ob, cb, ol, cl, Se, Sb, Sl, rfl, hE2, hB2, hL2, rfl⟩
        replace st := (st.pick [4, 2, 0, 1, 3] rfl (by decide)).prs2 cw (.inl (.head _)) (.inr hb5) hP1 hX2 (holds_sms hS2) hN2.2
        refine vc_end ?_
        refine vq_then ?_
        refine vc_keep [(4, _), (5, _)] ⟨rfl, rfl, trivial⟩ ?_
        refine vc_seq ?_
        refine vc_region ?_
        refine vc_y rfl rfl ((by first | exact y_lda (vs := [_, _, _, _, _, _, _]) st 0 rfl Tryd.isAgg83 Tryd.sizeOf83 rfl rfl | exact y_lda (vs := [_, _, _, _, _, _, _]) st 1 rfl Tryd.isAgg83 Tryd.sizeOf83 rfl rfl | exact y_lda (vs := [_, _, _, _, _, _, _]) st 2 rfl Tryd.isAgg83 Tryd.sizeOf83 rfl rfl | exact y_lda (vs := [_, _, _, _, _, _, _]) st 3 rfl Tryd.isAgg83 Tryd.sizeOf83 rfl rfl | exact y_lda (vs := [_, _, _, _, _, _, _]) st 4 rfl Tryd.isAgg83 Tryd.sizeOf83 rfl rfl | exact y_lda (vs := [_, _, _, _, _, _, _]) st 5 rfl Tryd.isAgg83 Tryd.sizeOf83 rfl rfl | exact y_lda (vs := [_, _, _, _, _, _, _]) st 6 rfl Tryd.isAgg83 Tryd.sizeOf83 rfl rfl | exact y_lda (vs := [_, _, _, _, _, _, _]) st 7 rfl Tryd.isAgg83 Tryd.sizeOf83 rfl rfl | exact y_lda (vs := [_, _, _, _, _, _, _]) st 8 rfl Tryd.isAgg83 Tryd.sizeOf83 rfl rfl)) ?_
        first
        | refine vc_e (e_sts (vs := [_, _, _, _, _, _, _]) st 0 rfl rfl rfl rfl rfl Tryd.sizeOf83 rfl rfl (by first | (right; assumption) | (left; simp)) ?_)
        | refine vc_e (e_sts (vs := [_, _, _, _, _, _, _]) st 1 rfl rfl rfl rfl rfl Tryd.sizeOf83 rfl rfl (by first | (right; assumption) | (left; simp)) ?_)
        | refine vc_e (e_sts (vs := [_, _, _, _, _, _, _]) st 2 rfl rfl rfl rfl rfl Tryd.sizeOf83 rfl rfl (by first | (right; assumption) | (left; simp)) ?_)
        | refine vc_e (e_sts (vs := [_, _, _, _, _, _, _]) st 3 rfl rfl rfl rfl rfl Tryd.sizeOf83 rfl rfl (by first | (right; assumption) | (left; simp)) ?_)
        | refine vc_e (e_sts (vs := [_, _, _, _, _, _, _]) st 4 rfl rfl rfl rfl rfl Tryd.sizeOf83 rfl rfl (by first | (right; assumption) | (left; simp)) ?_)
        | refine vc_e (e_sts (vs := [_, _, _, _, _, _, _]) st 5 rfl rfl rfl rfl rfl Tryd.sizeOf83 rfl rfl (by first | (right; assumption) | (left; simp)) ?_)
        | refine vc_e (e_sts (vs := [_, _, _, _, _, _, _]) st 6 rfl rfl rfl rfl rfl Tryd.sizeOf83 rfl rfl (by first | (right; assumption) | (left; simp)) ?_)
        | refine vc_e (e_sts (vs := [_, _, _, _, _, _, _]) st 7 rfl rfl rfl rfl rfl Tryd.sizeOf83 rfl rfl (by first | (right; assumption) | (left; simp)) ?_)
        | refine vc_e (e_sts (vs := [_, _, _, _, _, _, _]) st 8 rfl rfl rfl rfl rfl Tryd.sizeOf83 rfl rfl (by first | (right; assumption) | (left; simp)) ?_)
        intro w st; dsimp only [setNth, wr] at st
        refine vc_end ?_
        refine vq_then ?_
        refine vc_keep [(4, _)] ⟨rfl, trivial⟩ ?_
        refine vc_ret ?_
        refine vq_then_ret ?_
        refine vq_ret1 st (.inl rfl) Tryd.results97 (by first | exact .cell 0 rfl rfl Tryd.isAgg83 Tryd.sizeOf83 | exact .cell 1 rfl rfl Tryd.isAgg83 Tryd.sizeOf83 | exact .cell 2 rfl rfl Tryd.isAgg83 Tryd.sizeOf83 | exact .cell 3 rfl rfl Tryd.isAgg83 Tryd.sizeOf83 | exact .cell 4 rfl rfl Tryd.isAgg83 Tryd.sizeOf83 | exact .cell 5 rfl rfl Tryd.isAgg83 Tryd.sizeOf83 | exact .cell 6 rfl rfl Tryd.isAgg83 Tryd.sizeOf83 | exact .cell 7 rfl rfl Tryd.isAgg83 Tryd.sizeOf83 | exact .cell 8 rfl rfl Tryd.isAgg83 Tryd.sizeOf83) ?_
        refine .inl ⟨_, rfl, ?_⟩
        exact ⟨s, r2, hs, hsfr2.trans (List.tail_suffix _), by omega, (by first | exact st.res (i := 0) rfl | exact st.res (i := 1) rfl | exact st.res (i := 2) rfl | exact st.res (i := 3) rfl | exact st.res (i := 4) rfl | exact st.res (i := 5) rfl | exact st.res (i := 6) rfl | exact st.res (i := 7) rfl | exact st.res (i := 8) rfl | exact st.res (i := 9) rfl), st.chg, oe, ob, ol, ce, cb, cl, _, rfl, (st.res (i := 0) rfl).1, hN3⟩
      · have hform : formT (here r) wLock = true := by unfold formT; simp [he1, hkd]
        rw [if_neg (form_ne (s := wIf) he1 (by decide)), if_neg (form_ne (s := wWhile) he1 (by decide)), if_pos hform] at hs
        refine vc_e (e_callvp (f := 113) (first := [.pointer (some ⟨c.pb, 0, none⟩)]) (captured := []) [_, _] rfl rfl (by show some _ = some _; rw [he2]; rfl) Tryd.call113 rfl (pguard_of c hR hg d blk hB (atT c.e r) r.tail (suf_tail hr) _ (hC.k1 st.chg) (st.res (i := 4) rfl) b5 (st.res (i := 2) rfl) hpx (Nat.le_trans hC.le hb5)) (by
          rintro _ w' ⟨f, hf, rfl, ch⟩ a ha
          exact And.intro ha (Or.inr ⟨_, rfl, f, by rw [hs, hf], rfl, st.chg.trans' ch (fun k hk => by
            rcases List.mem_cons.1 hk with rfl | hk
            · exact .inl (.head _)
            · exact .inr (by simp at hk; subst hk; exact hb5))⟩)) ?_)
        rintro _ w ⟨s, r2, hx, hsfr2, hlnr2, hP1, cw, oe, ob, ol, ce, cb, cl, Se, Sb, Sl, hX2, hE2, hB2, hL2, hN2⟩
        rw [hx] at hs
        have hN3 := hN2.le st.chg.size
        have hS2 : SmS 26 83 w s (smC s oe ob ol ce cb cl) (Se ++ (Sb ++ Sl)) := SmS_iff.2 ⟨oe, ce, ob, cb, ol, cl, Se, Sb, Sl, rfl, hE2, hB2, hL2, rfl⟩
        replace st := (st.pick [4, 2, 0, 1, 3] rfl (by decide)).prs2 cw (.inl (.head _)) (.inr hb5) hP1 hX2 (holds_sms hS2) hN2.2
        refine vc_end ?_
        refine vq_then ?_
        refine vc_keep [(4, _), (5, _)] ⟨rfl, rfl, trivial⟩ ?_
        refine vc_seq ?_
        refine vc_region ?_
        refine vc_y rfl rfl ((by first | exact y_lda (vs := [_, _, _, _, _, _, _]) st 0 rfl Tryd.isAgg83 Tryd.sizeOf83 rfl rfl | exact y_lda (vs := [_, _, _, _, _, _, _]) st 1 rfl Tryd.isAgg83 Tryd.sizeOf83 rfl rfl | exact y_lda (vs := [_, _, _, _, _, _, _]) st 2 rfl Tryd.isAgg83 Tryd.sizeOf83 rfl rfl | exact y_lda (vs := [_, _, _, _, _, _, _]) st 3 rfl Tryd.isAgg83 Tryd.sizeOf83 rfl rfl | exact y_lda (vs := [_, _, _, _, _, _, _]) st 4 rfl Tryd.isAgg83 Tryd.sizeOf83 rfl rfl | exact y_lda (vs := [_, _, _, _, _, _, _]) st 5 rfl Tryd.isAgg83 Tryd.sizeOf83 rfl rfl | exact y_lda (vs := [_, _, _, _, _, _, _]) st 6 rfl Tryd.isAgg83 Tryd.sizeOf83 rfl rfl | exact y_lda (vs := [_, _, _, _, _, _, _]) st 7 rfl Tryd.isAgg83 Tryd.sizeOf83 rfl rfl | exact y_lda (vs := [_, _, _, _, _, _, _]) st 8 rfl Tryd.isAgg83 Tryd.sizeOf83 rfl rfl)) ?_
        first
        | refine vc_e (e_sts (vs := [_, _, _, _, _, _, _]) st 0 rfl rfl rfl rfl rfl Tryd.sizeOf83 rfl rfl (by first | (right; assumption) | (left; simp)) ?_)
        | refine vc_e (e_sts (vs := [_, _, _, _, _, _, _]) st 1 rfl rfl rfl rfl rfl Tryd.sizeOf83 rfl rfl (by first | (right; assumption) | (left; simp)) ?_)
        | refine vc_e (e_sts (vs := [_, _, _, _, _, _, _]) st 2 rfl rfl rfl rfl rfl Tryd.sizeOf83 rfl rfl (by first | (right; assumption) | (left; simp)) ?_)
        | refine vc_e (e_sts (vs := [_, _, _, _, _, _, _]) st 3 rfl rfl rfl rfl rfl Tryd.sizeOf83 rfl rfl (by first | (right; assumption) | (left; simp)) ?_)
        | refine vc_e (e_sts (vs := [_, _, _, _, _, _, _]) st 4 rfl rfl rfl rfl rfl Tryd.sizeOf83 rfl rfl (by first | (right; assumption) | (left; simp)) ?_)
        | refine vc_e (e_sts (vs := [_, _, _, _, _, _, _]) st 5 rfl rfl rfl rfl rfl Tryd.sizeOf83 rfl rfl (by first | (right; assumption) | (left; simp)) ?_)
        | refine vc_e (e_sts (vs := [_, _, _, _, _, _, _]) st 6 rfl rfl rfl rfl rfl Tryd.sizeOf83 rfl rfl (by first | (right; assumption) | (left; simp)) ?_)
        | refine vc_e (e_sts (vs := [_, _, _, _, _, _, _]) st 7 rfl rfl rfl rfl rfl Tryd.sizeOf83 rfl rfl (by first | (right; assumption) | (left; simp)) ?_)
        | refine vc_e (e_sts (vs := [_, _, _, _, _, _, _]) st 8 rfl rfl rfl rfl rfl Tryd.sizeOf83 rfl rfl (by first | (right; assumption) | (left; simp)) ?_)
        intro w st; dsimp only [setNth, wr] at st
        refine vc_end ?_
        refine vq_then ?_
        refine vc_keep [(4, _)] ⟨rfl, trivial⟩ ?_
        refine vc_ret ?_
        refine vq_then_ret ?_
        refine vq_ret1 st (.inl rfl) Tryd.results97 (by first | exact .cell 0 rfl rfl Tryd.isAgg83 Tryd.sizeOf83 | exact .cell 1 rfl rfl Tryd.isAgg83 Tryd.sizeOf83 | exact .cell 2 rfl rfl Tryd.isAgg83 Tryd.sizeOf83 | exact .cell 3 rfl rfl Tryd.isAgg83 Tryd.sizeOf83 | exact .cell 4 rfl rfl Tryd.isAgg83 Tryd.sizeOf83 | exact .cell 5 rfl rfl Tryd.isAgg83 Tryd.sizeOf83 | exact .cell 6 rfl rfl Tryd.isAgg83 Tryd.sizeOf83 | exact .cell 7 rfl rfl Tryd.isAgg83 Tryd.sizeOf83 | exact .cell 8 rfl rfl Tryd.isAgg83 Tryd.sizeOf83) ?_
        refine .inl ⟨_, rfl, ?_⟩
        exact ⟨s, r2, hs, hsfr2.trans (List.tail_suffix _), by omega, (by first | exact st.res (i := 0) rfl | exact st.res (i := 1) rfl | exact st.res (i := 2) rfl | exact st.res (i := 3) rfl | exact st.res (i := 4) rfl | exact st.res (i := 5) rfl | exact st.res (i := 6) rfl | exact st.res (i := 7) rfl | exact st.res (i := 8) rfl | exact st.res (i := 9) rfl), st.chg, oe, ob, ol, ce, cb, cl, _, rfl, (st.res (i := 0) rfl).1, hN3⟩
      · have hform : formT (here r) wPrint = true := by unfold formT; simp [he1, hkd]
        rw [if_neg (form_ne (s := wIf) he1 (by decide)), if_neg (form_ne (s := wWhile) he1 (by decide)), if_neg (form_ne (s := wLock) he1 (by decide)), if_pos hform] at hs
        refine vc_e (e_callvp (f := 114) (first := [.pointer (some ⟨c.pb, 0, none⟩)]) (captured := []) [_, _] rfl rfl (by show some _ = some _; rw [he2]; rfl) Tryd.call114 rfl (pprint_any c hR hg  (atT c.e r) r.tail (suf_tail hr) _ (hC.k1 st.chg) (st.res (i := 4) rfl) b5 (st.res (i := 2) rfl) hpx (Nat.le_trans hC.le hb5) (.int .i64 (d : Int))) (by
          rintro _ w' ⟨f, hf, rfl, ch⟩ a ha
          exact And.intro ha (Or.inr ⟨_, rfl, f, by rw [hs, hf], rfl, st.chg.trans' ch (fun k hk => by
            rcases List.mem_cons.1 hk with rfl | hk
            · exact .inl (.head _)
            · exact .inr (by simp at hk; subst hk; exact hb5))⟩)) ?_)
        rintro _ w ⟨s, r2, hx, hsfr2, hlnr2, hP1, cw, oe, ob, ol, ce, cb, cl, Se, Sb, Sl, hX2, hE2, hB2, hL2, hN2⟩
        rw [hx] at hs
        have hN3 := hN2.le st.chg.size
        have hS2 : SmS 26 83 w s (smC s oe ob ol ce cb cl) (Se ++ (Sb ++ Sl)) := SmS_iff.2 ⟨oe, ce, ob, cb, ol, cl, Se, Sb, Sl, rfl, hE2, hB2, hL2, rfl⟩
        replace st := (st.pick [4, 2, 0, 1, 3] rfl (by decide)).prs2 cw (.inl (.head _)) (.inr hb5) hP1 hX2 (holds_sms hS2) hN2.2
        refine vc_end ?_
        refine vq_then ?_
        refine vc_keep [(4, _), (5, _)] ⟨rfl, rfl, trivial⟩ ?_
        refine vc_seq ?_
        refine vc_region ?_
        refine vc_y rfl rfl ((by first | exact y_lda (vs := [_, _, _, _, _, _, _]) st 0 rfl Tryd.isAgg83 Tryd.sizeOf83 rfl rfl | exact y_lda (vs := [_, _, _, _, _, _, _]) st 1 rfl Tryd.isAgg83 Tryd.sizeOf83 rfl rfl | exact y_lda (vs := [_, _, _, _, _, _, _]) st 2 rfl Tryd.isAgg83 Tryd.sizeOf83 rfl rfl | exact y_lda (vs := [_, _, _, _, _, _, _]) st 3 rfl Tryd.isAgg83 Tryd.sizeOf83 rfl rfl | exact y_lda (vs := [_, _, _, _, _, _, _]) st 4 rfl Tryd.isAgg83 Tryd.sizeOf83 rfl rfl | exact y_lda (vs := [_, _, _, _, _, _, _]) st 5 rfl Tryd.isAgg83 Tryd.sizeOf83 rfl rfl | exact y_lda (vs := [_, _, _, _, _, _, _]) st 6 rfl Tryd.isAgg83 Tryd.sizeOf83 rfl rfl | exact y_lda (vs := [_, _, _, _, _, _, _]) st 7 rfl Tryd.isAgg83 Tryd.sizeOf83 rfl rfl | exact y_lda (vs := [_, _, _, _, _, _, _]) st 8 rfl Tryd.isAgg83 Tryd.sizeOf83 rfl rfl)) ?_
        first
        | refine vc_e (e_sts (vs := [_, _, _, _, _, _, _]) st 0 rfl rfl rfl rfl rfl Tryd.sizeOf83 rfl rfl (by first | (right; assumption) | (left; simp)) ?_)
        | refine vc_e (e_sts (vs := [_, _, _, _, _, _, _]) st 1 rfl rfl rfl rfl rfl Tryd.sizeOf83 rfl rfl (by first | (right; assumption) | (left; simp)) ?_)
        | refine vc_e (e_sts (vs := [_, _, _, _, _, _, _]) st 2 rfl rfl rfl rfl rfl Tryd.sizeOf83 rfl rfl (by first | (right; assumption) | (left; simp)) ?_)
        | refine vc_e (e_sts (vs := [_, _, _, _, _, _, _]) st 3 rfl rfl rfl rfl rfl Tryd.sizeOf83 rfl rfl (by first | (right; assumption) | (left; simp)) ?_)
        | refine vc_e (e_sts (vs := [_, _, _, _, _, _, _]) st 4 rfl rfl rfl rfl rfl Tryd.sizeOf83 rfl rfl (by first | (right; assumption) | (left; simp)) ?_)
        | refine vc_e (e_sts (vs := [_, _, _, _, _, _, _]) st 5 rfl rfl rfl rfl rfl Tryd.sizeOf83 rfl rfl (by first | (right; assumption) | (left; simp)) ?_)
        | refine vc_e (e_sts (vs := [_, _, _, _, _, _, _]) st 6 rfl rfl rfl rfl rfl Tryd.sizeOf83 rfl rfl (by first | (right; assumption) | (left; simp)) ?_)
        | refine vc_e (e_sts (vs := [_, _, _, _, _, _, _]) st 7 rfl rfl rfl rfl rfl Tryd.sizeOf83 rfl rfl (by first | (right; assumption) | (left; simp)) ?_)
        | refine vc_e (e_sts (vs := [_, _, _, _, _, _, _]) st 8 rfl rfl rfl rfl rfl Tryd.sizeOf83 rfl rfl (by first | (right; assumption) | (left; simp)) ?_)
        intro w st; dsimp only [setNth, wr] at st
        refine vc_end ?_
        refine vq_then ?_
        refine vc_keep [(4, _)] ⟨rfl, trivial⟩ ?_
        refine vc_ret ?_
        refine vq_then_ret ?_
        refine vq_ret1 st (.inl rfl) Tryd.results97 (by first | exact .cell 0 rfl rfl Tryd.isAgg83 Tryd.sizeOf83 | exact .cell 1 rfl rfl Tryd.isAgg83 Tryd.sizeOf83 | exact .cell 2 rfl rfl Tryd.isAgg83 Tryd.sizeOf83 | exact .cell 3 rfl rfl Tryd.isAgg83 Tryd.sizeOf83 | exact .cell 4 rfl rfl Tryd.isAgg83 Tryd.sizeOf83 | exact .cell 5 rfl rfl Tryd.isAgg83 Tryd.sizeOf83 | exact .cell 6 rfl rfl Tryd.isAgg83 Tryd.sizeOf83 | exact .cell 7 rfl rfl Tryd.isAgg83 Tryd.sizeOf83 | exact .cell 8 rfl rfl Tryd.isAgg83 Tryd.sizeOf83) ?_
        refine .inl ⟨_, rfl, ?_⟩
        exact ⟨s, r2, hs, hsfr2.trans (List.tail_suffix _), by omega, (by first | exact st.res (i := 0) rfl | exact st.res (i := 1) rfl | exact st.res (i := 2) rfl | exact st.res (i := 3) rfl | exact st.res (i := 4) rfl | exact st.res (i := 5) rfl | exact st.res (i := 6) rfl | exact st.res (i := 7) rfl | exact st.res (i := 8) rfl | exact st.res (i := 9) rfl), st.chg, oe, ob, ol, ce, cb, cl, _, rfl, (st.res (i := 0) rfl).1, hN3⟩
      · have hform : formT (here r) wSkip = true := by unfold formT; simp [he1, hkd]
        rw [if_neg (form_ne (s := wIf) he1 (by decide)), if_neg (form_ne (s := wWhile) he1 (by decide)), if_neg (form_ne (s := wLock) he1 (by decide)), if_neg (form_ne (s := wPrint) he1 (by decide)), if_pos hform] at hs
        refine vc_e (e_callvp (f := 115) (first := [.pointer (some ⟨c.pb, 0, none⟩)]) (captured := []) [_, _] rfl rfl (by show some _ = some _; rw [he2]; rfl) Tryd.call115 rfl (pskip_any c hR hg  (atT c.e r) r.tail (suf_tail hr) _ (hC.k1 st.chg) (st.res (i := 4) rfl) b5 (st.res (i := 2) rfl) hpx (Nat.le_trans hC.le hb5) (.int .i64 (d : Int))) (by
          rintro _ w' ⟨f, hf, rfl, ch⟩ a ha
          exact And.intro ha (Or.inr ⟨_, rfl, f, by rw [hs, hf], rfl, st.chg.trans' ch (fun k hk => by
            rcases List.mem_cons.1 hk with rfl | hk
            · exact .inl (.head _)
            · exact .inr (by simp at hk; subst hk; exact hb5))⟩)) ?_)
        rintro _ w ⟨s, r2, hx, hsfr2, hlnr2, hP1, cw, oe, ob, ol, ce, cb, cl, Se, Sb, Sl, hX2, hE2, hB2, hL2, hN2⟩
        rw [hx] at hs
        have hN3 := hN2.le st.chg.size
        have hS2 : SmS 26 83 w s (smC s oe ob ol ce cb cl) (Se ++ (Sb ++ Sl)) := SmS_iff.2 ⟨oe, ce, ob, cb, ol, cl, Se, Sb, Sl, rfl, hE2, hB2, hL2, rfl⟩
        replace st := (st.pick [4, 2, 0, 1, 3] rfl (by decide)).prs2 cw (.inl (.head _)) (.inr hb5) hP1 hX2 (holds_sms hS2) hN2.2
        refine vc_end ?_
        refine vq_then ?_
        refine vc_keep [(4, _), (5, _)] ⟨rfl, rfl, trivial⟩ ?_
        refine vc_seq ?_
        refine vc_region ?_
        refine vc_y rfl rfl ((by first | exact y_lda (vs := [_, _, _, _, _, _, _]) st 0 rfl Tryd.isAgg83 Tryd.sizeOf83 rfl rfl | exact y_lda (vs := [_, _, _, _, _, _, _]) st 1 rfl Tryd.isAgg83 Tryd.sizeOf83 rfl rfl | exact y_lda (vs := [_, _, _, _, _, _, _]) st 2 rfl Tryd.isAgg83 Tryd.sizeOf83 rfl rfl | exact y_lda (vs := [_, _, _, _, _, _, _]) st 3 rfl Tryd.isAgg83 Tryd.sizeOf83 rfl rfl | exact y_lda (vs := [_, _, _, _, _, _, _]) st 4 rfl Tryd.isAgg83 Tryd.sizeOf83 rfl rfl | exact y_lda (vs := [_, _, _, _, _, _, _]) st 5 rfl Tryd.isAgg83 Tryd.sizeOf83 rfl rfl | exact y_lda (vs := [_, _, _, _, _, _, _]) st 6 rfl Tryd.isAgg83 Tryd.sizeOf83 rfl rfl | exact y_lda (vs := [_, _, _, _, _, _, _]) st 7 rfl Tryd.isAgg83 Tryd.sizeOf83 rfl rfl | exact y_lda (vs := [_, _, _, _, _, _, _]) st 8 rfl Tryd.isAgg83 Tryd.sizeOf83 rfl rfl)) ?_
        first
        | refine vc_e (e_sts (vs := [_, _, _, _, _, _, _]) st 0 rfl rfl rfl rfl rfl Tryd.sizeOf83 rfl rfl (by first | (right; assumption) | (left; simp)) ?_)
        | refine vc_e (e_sts (vs := [_, _, _, _, _, _, _]) st 1 rfl rfl rfl rfl rfl Tryd.sizeOf83 rfl rfl (by first | (right; assumption) | (left; simp)) ?_)
        | refine vc_e (e_sts (vs := [_, _, _, _, _, _, _]) st 2 rfl rfl rfl rfl rfl Tryd.sizeOf83 rfl rfl (by first | (right; assumption) | (left; simp)) ?_)
        | refine vc_e (e_sts (vs := [_, _, _, _, _, _, _]) st 3 rfl rfl rfl rfl rfl Tryd.sizeOf83 rfl rfl (by first | (right; assumption) | (left; simp)) ?_)
        | refine vc_e (e_sts (vs := [_, _, _, _, _, _, _]) st 4 rfl rfl rfl rfl rfl Tryd.sizeOf83 rfl rfl (by first | (right; assumption) | (left; simp)) ?_)
        | refine vc_e (e_sts (vs := [_, _, _, _, _, _, _]) st 5 rfl rfl rfl rfl rfl Tryd.sizeOf83 rfl rfl (by first | (right; assumption) | (left; simp)) ?_)
        | refine vc_e (e_sts (vs := [_, _, _, _, _, _, _]) st 6 rfl rfl rfl rfl rfl Tryd.sizeOf83 rfl rfl (by first | (right; assumption) | (left; simp)) ?_)
        | refine vc_e (e_sts (vs := [_, _, _, _, _, _, _]) st 7 rfl rfl rfl rfl rfl Tryd.sizeOf83 rfl rfl (by first | (right; assumption) | (left; simp)) ?_)
        | refine vc_e (e_sts (vs := [_, _, _, _, _, _, _]) st 8 rfl rfl rfl rfl rfl Tryd.sizeOf83 rfl rfl (by first | (right; assumption) | (left; simp)) ?_)
        intro w st; dsimp only [setNth, wr] at st
        refine vc_end ?_
        refine vq_then ?_
        refine vc_keep [(4, _)] ⟨rfl, trivial⟩ ?_
        refine vc_ret ?_
        refine vq_then_ret ?_
        refine vq_ret1 st (.inl rfl) Tryd.results97 (by first | exact .cell 0 rfl rfl Tryd.isAgg83 Tryd.sizeOf83 | exact .cell 1 rfl rfl Tryd.isAgg83 Tryd.sizeOf83 | exact .cell 2 rfl rfl Tryd.isAgg83 Tryd.sizeOf83 | exact .cell 3 rfl rfl Tryd.isAgg83 Tryd.sizeOf83 | exact .cell 4 rfl rfl Tryd.isAgg83 Tryd.sizeOf83 | exact .cell 5 rfl rfl Tryd.isAgg83 Tryd.sizeOf83 | exact .cell 6 rfl rfl Tryd.isAgg83 Tryd.sizeOf83 | exact .cell 7 rfl rfl Tryd.isAgg83 Tryd.sizeOf83 | exact .cell 8 rfl rfl Tryd.isAgg83 Tryd.sizeOf83) ?_
        refine .inl ⟨_, rfl, ?_⟩
        exact ⟨s, r2, hs, hsfr2.trans (List.tail_suffix _), by omega, (by first | exact st.res (i := 0) rfl | exact st.res (i := 1) rfl | exact st.res (i := 2) rfl | exact st.res (i := 3) rfl | exact st.res (i := 4) rfl | exact st.res (i := 5) rfl | exact st.res (i := 6) rfl | exact st.res (i := 7) rfl | exact st.res (i := 8) rfl | exact st.res (i := 9) rfl), st.chg, oe, ob, ol, ce, cb, cl, _, rfl, (st.res (i := 0) rfl).1, hN3⟩
    · intro hc27
      try simp only [decide_eq_true_eq, decide_eq_false_iff_not, Bool.not_eq_true', Bool.not_eq_false', Bool.not_eq_true, Bool.not_eq_false, Int.not_lt, Int.not_le, Nat.not_lt, Nat.not_le, Bool.not_true, Bool.not_false, Bool.true_eq_false, Bool.false_eq_true] at hc27
      have hs := stmtW_assign (e := c.e) (blk := blk) (ts := r) (.inr (by omega))
      refine vc_code_skip ?_
      refine vq_then ?_
      refine vc_keep [(0, _), (4, _), (5, _)] ⟨rfl, rfl, rfl, trivial⟩ ?_
      refine vc_seq ?_
      refine vc_region ?_
      refine vc_y rfl rfl (y_mv rfl) ?_
      refine vc_e (e_callp [_, _] rfl rfl Tryd.call108 rfl (passign_any c hR hg  (atT c.e r) r hr _ (hC.k1 st.chg) (st.res (i := 4) rfl) b5 (st.res (i := 2) rfl) hpx (Nat.le_trans hC.le hb5)) (by
        rintro _ w' ⟨f, hf, rfl, ch⟩ a ha
        exact And.intro ha (Or.inr ⟨_, rfl, f, by rw [hs, hf], rfl, st.chg.trans' ch (fun k hk => by
          rcases List.mem_cons.1 hk with rfl | hk
          · exact .inl (.head _)
          · exact .inr (by simp at hk; subst hk; exact hb5))⟩)) ?_)
      rintro _ w ⟨s, r2, hx, hsfr2, hlnr2, hP1, cw, oe, ob, ol, ce, cb, cl, Se, Sb, Sl, hX2, hE2, hB2, hL2, hN2⟩
      rw [hx] at hs
      have hN3 := hN2.le st.chg.size
      have hS2 : SmS 26 83 w s (smC s oe ob ol ce cb cl) (Se ++ (Sb ++ Sl)) := SmS_iff.2 ⟨oe, ce, ob, cb, ol, cl, Se, Sb, Sl, rfl, hE2, hB2, hL2, rfl⟩
      replace st := (st.pick [4, 2, 0, 1, 3] rfl (by decide)).prs2 cw (.inl (.head _)) (.inr hb5) hP1 hX2 (holds_sms hS2) hN2.2
      refine vc_end ?_
      refine vq_then ?_
      refine vc_keep [(4, _), (5, _)] ⟨rfl, rfl, trivial⟩ ?_
      refine vc_seq ?_
      refine vc_region ?_
      refine vc_y rfl rfl ((by first | exact y_lda (vs := [_, _, _, _, _, _, _]) st 0 rfl Tryd.isAgg83 Tryd.sizeOf83 rfl rfl | exact y_lda (vs := [_, _, _, _, _, _, _]) st 1 rfl Tryd.isAgg83 Tryd.sizeOf83 rfl rfl | exact y_lda (vs := [_, _, _, _, _, _, _]) st 2 rfl Tryd.isAgg83 Tryd.sizeOf83 rfl rfl | exact y_lda (vs := [_, _, _, _, _, _, _]) st 3 rfl Tryd.isAgg83 Tryd.sizeOf83 rfl rfl | exact y_lda (vs := [_, _, _, _, _, _, _]) st 4 rfl Tryd.isAgg83 Tryd.sizeOf83 rfl rfl | exact y_lda (vs := [_, _, _, _, _, _, _]) st 5 rfl Tryd.isAgg83 Tryd.sizeOf83 rfl rfl | exact y_lda (vs := [_, _, _, _, _, _, _]) st 6 rfl Tryd.isAgg83 Tryd.sizeOf83 rfl rfl | exact y_lda (vs := [_, _, _, _, _, _, _]) st 7 rfl Tryd.isAgg83 Tryd.sizeOf83 rfl rfl | exact y_lda (vs := [_, _, _, _, _, _, _]) st 8 rfl Tryd.isAgg83 Tryd.sizeOf83 rfl rfl)) ?_
      first
      | refine vc_e (e_sts (vs := [_, _, _, _, _, _, _]) st 0 rfl rfl rfl rfl rfl Tryd.sizeOf83 rfl rfl (by first | (right; assumption) | (left; simp)) ?_)
      | refine vc_e (e_sts (vs := [_, _, _, _, _, _, _]) st 1 rfl rfl rfl rfl rfl Tryd.sizeOf83 rfl rfl (by first | (right; assumption) | (left; simp)) ?_)
      | refine vc_e (e_sts (vs := [_, _, _, _, _, _, _]) st 2 rfl rfl rfl rfl rfl Tryd.sizeOf83 rfl rfl (by first | (right; assumption) | (left; simp)) ?_)
      | refine vc_e (e_sts (vs := [_, _, _, _, _, _, _]) st 3 rfl rfl rfl rfl rfl Tryd.sizeOf83 rfl rfl (by first | (right; assumption) | (left; simp)) ?_)
      | refine vc_e (e_sts (vs := [_, _, _, _, _, _, _]) st 4 rfl rfl rfl rfl rfl Tryd.sizeOf83 rfl rfl (by first | (right; assumption) | (left; simp)) ?_)
      | refine vc_e (e_sts (vs := [_, _, _, _, _, _, _]) st 5 rfl rfl rfl rfl rfl Tryd.sizeOf83 rfl rfl (by first | (right; assumption) | (left; simp)) ?_)
      | refine vc_e (e_sts (vs := [_, _, _, _, _, _, _]) st 6 rfl rfl rfl rfl rfl Tryd.sizeOf83 rfl rfl (by first | (right; assumption) | (left; simp)) ?_)
      | refine vc_e (e_sts (vs := [_, _, _, _, _, _, _]) st 7 rfl rfl rfl rfl rfl Tryd.sizeOf83 rfl rfl (by first | (right; assumption) | (left; simp)) ?_)
      | refine vc_e (e_sts (vs := [_, _, _, _, _, _, _]) st 8 rfl rfl rfl rfl rfl Tryd.sizeOf83 rfl rfl (by first | (right; assumption) | (left; simp)) ?_)
      intro w st; dsimp only [setNth, wr] at st
      refine vc_end ?_
      refine vq_then ?_
      refine vc_keep [(4, _)] ⟨rfl, trivial⟩ ?_
      refine vc_ret ?_
      refine vq_ret1 st (.inl rfl) Tryd.results97 (by first | exact .cell 0 rfl rfl Tryd.isAgg83 Tryd.sizeOf83 | exact .cell 1 rfl rfl Tryd.isAgg83 Tryd.sizeOf83 | exact .cell 2 rfl rfl Tryd.isAgg83 Tryd.sizeOf83 | exact .cell 3 rfl rfl Tryd.isAgg83 Tryd.sizeOf83 | exact .cell 4 rfl rfl Tryd.isAgg83 Tryd.sizeOf83 | exact .cell 5 rfl rfl Tryd.isAgg83 Tryd.sizeOf83 | exact .cell 6 rfl rfl Tryd.isAgg83 Tryd.sizeOf83 | exact .cell 7 rfl rfl Tryd.isAgg83 Tryd.sizeOf83 | exact .cell 8 rfl rfl Tryd.isAgg83 Tryd.sizeOf83) ?_
      refine .inl ⟨_, rfl, ?_⟩
      exact ⟨s, r2, hs, hsfr2, hlnr2, (by first | exact st.res (i := 0) rfl | exact st.res (i := 1) rfl | exact st.res (i := 2) rfl | exact st.res (i := 3) rfl | exact st.res (i := 4) rfl | exact st.res (i := 5) rfl | exact st.res (i := 6) rfl | exact st.res (i := 7) rfl | exact st.res (i := 8) rfl | exact st.res (i := 9) rfl), st.chg, oe, ob, ol, ce, cb, cl, _, rfl, (st.res (i := 0) rfl).1, hN3⟩
  · intro hg23
    try simp only [decide_eq_true_eq, decide_eq_false_iff_not, Bool.not_eq_true', Bool.not_eq_false', Bool.not_eq_true, Bool.not_eq_false, Int.not_lt, Int.not_le, Nat.not_lt, Nat.not_le, Bool.not_true, Bool.not_false, Bool.true_eq_false, Bool.false_eq_true] at hg23
    have hs := stmtW_assign (e := c.e) (blk := blk) (ts := r) (.inl (by
      rcases getF5 (v1 := (.func (.func 111) [.pointer (some ⟨c.pb, 0, none⟩)].toArray #[])) (v2 := (.func (.func 112) [.pointer (some ⟨c.pb, 0, none⟩)].toArray #[])) (v3 := (.func (.func 113) [.pointer (some ⟨c.pb, 0, none⟩)].toArray #[])) (v4 := (.func (.func 114) [.pointer (some ⟨c.pb, 0, none⟩)].toArray #[])) (v5 := (.func (.func 115) [.pointer (some ⟨c.pb, 0, none⟩)].toArray #[])) (here r).text with ⟨_, he2⟩ | ⟨_, he2⟩ | ⟨_, he2⟩ | ⟨_, he2⟩ | ⟨_, he2⟩ | ⟨he1, _⟩
      all_goals first | exact he1 | (exfalso; rw [he2] at hg23; cases hg23)))
    refine vc_e (e_skip rfl rfl ?_)
    refine vc_e (e_skip rfl rfl ?_)
    refine vc_e (e_skip rfl rfl ?_)
    refine vc_y rfl rfl (y_pickf rfl rfl) ?_
    refine vc_end ?_
    refine vq_then ?_
    refine vc_keep [(0, _), (1, _), (4, _), (5, _), (7, _), (27, _)] ⟨rfl, rfl, rfl, rfl, rfl, rfl, trivial⟩ ?_
    refine vc_iff rfl ?_
    refine vc_code_skip ?_
    refine vq_then ?_
    refine vc_keep [(0, _), (4, _), (5, _)] ⟨rfl, rfl, rfl, trivial⟩ ?_
    refine vc_seq ?_
    refine vc_region ?_
    refine vc_y rfl rfl (y_mv rfl) ?_
    refine vc_e (e_callp [_, _] rfl rfl Tryd.call108 rfl (passign_any c hR hg  (atT c.e r) r hr _ (hC.k1 st.chg) (st.res (i := 4) rfl) b5 (st.res (i := 2) rfl) hpx (Nat.le_trans hC.le hb5)) (by
      rintro _ w' ⟨f, hf, rfl, ch⟩ a ha
      exact And.intro ha (Or.inr ⟨_, rfl, f, by rw [hs, hf], rfl, st.chg.trans' ch (fun k hk => by
        rcases List.mem_cons.1 hk with rfl | hk
        · exact .inl (.head _)
        · exact .inr (by simp at hk; subst hk; exact hb5))⟩)) ?_)
    rintro _ w ⟨s, r2, hx, hsfr2, hlnr2, hP1, cw, oe, ob, ol, ce, cb, cl, Se, Sb, Sl, hX2, hE2, hB2, hL2, hN2⟩
    rw [hx] at hs
    have hN3 := hN2.le st.chg.size
    have hS2 : SmS 26 83 w s (smC s oe ob ol ce cb cl) (Se ++ (Sb ++ Sl)) := SmS_iff.2 ⟨oe, ce, ob, cb, ol, cl, Se, Sb, Sl, rfl, hE2, hB2, hL2, rfl⟩
    replace st := (st.pick [4, 2, 0, 1, 3] rfl (by decide)).prs2 cw (.inl (.head _)) (.inr hb5) hP1 hX2 (holds_sms hS2) hN2.2
    refine vc_end ?_
    refine vq_then ?_
    refine vc_keep [(4, _), (5, _)] ⟨rfl, rfl, trivial⟩ ?_
    refine vc_seq ?_
    refine vc_region ?_
    refine vc_y rfl rfl ((by first | exact y_lda (vs := [_, _, _, _, _, _, _]) st 0 rfl Tryd.isAgg83 Tryd.sizeOf83 rfl rfl | exact y_lda (vs := [_, _, _, _, _, _, _]) st 1 rfl Tryd.isAgg83 Tryd.sizeOf83 rfl rfl | exact y_lda (vs := [_, _, _, _, _, _, _]) st 2 rfl Tryd.isAgg83 Tryd.sizeOf83 rfl rfl | exact y_lda (vs := [_, _, _, _, _, _, _]) st 3 rfl Tryd.isAgg83 Tryd.sizeOf83 rfl rfl | exact y_lda (vs := [_, _, _, _, _, _, _]) st 4 rfl Tryd.isAgg83 Tryd.sizeOf83 rfl rfl | exact y_lda (vs := [_, _, _, _, _, _, _]) st 5 rfl Tryd.isAgg83 Tryd.sizeOf83 rfl rfl | exact y_lda (vs := [_, _, _, _, _, _, _]) st 6 rfl Tryd.isAgg83 Tryd.sizeOf83 rfl rfl | exact y_lda (vs := [_, _, _, _, _, _, _]) st 7 rfl Tryd.isAgg83 Tryd.sizeOf83 rfl rfl | exact y_lda (vs := [_, _, _, _, _, _, _]) st 8 rfl Tryd.isAgg83 Tryd.sizeOf83 rfl rfl)) ?_
    first
    | refine vc_e (e_sts (vs := [_, _, _, _, _, _, _]) st 0 rfl rfl rfl rfl rfl Tryd.sizeOf83 rfl rfl (by first | (right; assumption) | (left; simp)) ?_)
    | refine vc_e (e_sts (vs := [_, _, _, _, _, _, _]) st 1 rfl rfl rfl rfl rfl Tryd.sizeOf83 rfl rfl (by first | (right; assumption) | (left; simp)) ?_)
    | refine vc_e (e_sts (vs := [_, _, _, _, _, _, _]) st 2 rfl rfl rfl rfl rfl Tryd.sizeOf83 rfl rfl (by first | (right; assumption) | (left; simp)) ?_)
    | refine vc_e (e_sts (vs := [_, _, _, _, _, _, _]) st 3 rfl rfl rfl rfl rfl Tryd.sizeOf83 rfl rfl (by first | (right; assumption) | (left; simp)) ?_)
    | refine vc_e (e_sts (vs := [_, _, _, _, _, _, _]) st 4 rfl rfl rfl rfl rfl Tryd.sizeOf83 rfl rfl (by first | (right; assumption) | (left; simp)) ?_)
    | refine vc_e (e_sts (vs := [_, _, _, _, _, _, _]) st 5 rfl rfl rfl rfl rfl Tryd.sizeOf83 rfl rfl (by first | (right; assumption) | (left; simp)) ?_)
    | refine vc_e (e_sts (vs := [_, _, _, _, _, _, _]) st 6 rfl rfl rfl rfl rfl Tryd.sizeOf83 rfl rfl (by first | (right; assumption) | (left; simp)) ?_)
    | refine vc_e (e_sts (vs := [_, _, _, _, _, _, _]) st 7 rfl rfl rfl rfl rfl Tryd.sizeOf83 rfl rfl (by first | (right; assumption) | (left; simp)) ?_)
    | refine vc_e (e_sts (vs := [_, _, _, _, _, _, _]) st 8 rfl rfl rfl rfl rfl Tryd.sizeOf83 rfl rfl (by first | (right; assumption) | (left; simp)) ?_)
    intro w st; dsimp only [setNth, wr] at st
    refine vc_end ?_
    refine vq_then ?_
    refine vc_keep [(4, _)] ⟨rfl, trivial⟩ ?_
    refine vc_ret ?_
    refine vq_ret1 st (.inl rfl) Tryd.results97 (by first | exact .cell 0 rfl rfl Tryd.isAgg83 Tryd.sizeOf83 | exact .cell 1 rfl rfl Tryd.isAgg83 Tryd.sizeOf83 | exact .cell 2 rfl rfl Tryd.isAgg83 Tryd.sizeOf83 | exact .cell 3 rfl rfl Tryd.isAgg83 Tryd.sizeOf83 | exact .cell 4 rfl rfl Tryd.isAgg83 Tryd.sizeOf83 | exact .cell 5 rfl rfl Tryd.isAgg83 Tryd.sizeOf83 | exact .cell 6 rfl rfl Tryd.isAgg83 Tryd.sizeOf83 | exact .cell 7 rfl rfl Tryd.isAgg83 Tryd.sizeOf83 | exact .cell 8 rfl rfl Tryd.isAgg83 Tryd.sizeOf83) ?_
    refine .inl ⟨_, rfl, ?_⟩
    exact ⟨s, r2, hs, hsfr2, hlnr2, (by first | exact st.res (i := 0) rfl | exact st.res (i := 1) rfl | exact st.res (i := 2) rfl | exact st.res (i := 3) rfl | exact st.res (i := 4) rfl | exact st.res (i := 5) rfl | exact st.res (i := 6) rfl | exact st.res (i := 7) rfl | exact st.res (i := 8) rfl | exact st.res (i := 9) rfl), st.chg, oe, ob, ol, ce, cb, cl, _, rfl, (st.res (i := 0) rfl).1, hN3⟩

theorem pstmt_any (c : PCtx) (hR : c.R = 65) (hg : c.g = 0) : ∀ (m d : Nat), d + m = 64 → SRead c d (stmtP c.e m)
  | 0, d, h => by
    rw [stmtP_blk]
    exact pstmt_of c hR hg d _ (pblock_of c hR d 0 h (fun k hk => by omega))
  | m + 1, d, h => by
    rw [stmtP_blk]
    exact pstmt_of c hR hg d _ (pblock_of c hR d (m + 1) h (fun k hk => by
      obtain rfl : k = m := by omega
      exact pstmt_any c hR hg k (d + 1) (by omega)))
/-- the statements of a thread -/
theorem prest_any (c : PCtx) (hR : c.R = 65) (hg : c.g = 0) (r : List Tok) (hr : r <:+ c.ts) (w : World) (hC : PCok c w) (hP : PAt c r w) : RetP Tryd.prog 88 [.pointer (some ⟨c.pb, 0, none⟩), .int .i64 1] w
    (PRes c r (restP c.e 63 r) [c.pb] w (HB w)) (PErr c (restP c.e 63 r) [c.pb] w) := prest_of c hR 1 63 (r.length + 1) (pstmt_any c hR hg 63 1 rfl) r (Nat.lt_succ_self _) hr w hC hP

end Go.Proofs.YtggnfanphcaamaaDoor

