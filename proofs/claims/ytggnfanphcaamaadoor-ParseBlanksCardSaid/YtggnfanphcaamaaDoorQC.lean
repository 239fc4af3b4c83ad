/- A part of the proof: contracts of functions and plain laws; each theorem says its own conditions. -/
import Derived.Test.YtggnfanphcaamaaDoorK3
namespace Go.Proofs.YtggnfanphcaamaaDoor
open Go.RowKit Sx LexS ParS
set_option linter.unusedVariables false
set_option linter.unusedSimpArgs false
theorem Tryd.info112 : Tryd.prog.info? 112 = some Tryd.t112 := by kernel_rfl
/-- an expression's value, and the new memory that it hangs on -/
def HE (w : World) (x : Ex) (v : Value) (w' : World) : Prop := ∃ oq cq Sq, v = .agg (exC x oq cq).toArray ∧ ExR 26 w' oq cq x.kids Sq ∧ Nw w.heap.size Sq
/-- a reader of expressions that lie so deep -/
def DRead (fo : FuncId) (c : PCtx) (d : Nat) (F : List Tok → PR Ex) : Prop := ∀ (r : List Tok) (hr : r <:+ c.ts) (w : World) (hC : PCok c w) (hP : PAt c r w), RetP Tryd.prog fo [.pointer (some ⟨c.pb, 0, none⟩), .int .i64 (d : Int)] w
    (PRes c r (F r) [c.pb] w (HE w)) (PErr c (F r) [c.pb] w)
abbrev ex00 : List Value := [.int .u8 0, .int .u8 0, .int .i64 0, str [], .slice none 0 0, .int .i64 0]

set_option maxHeartbeats 1000000 in
theorem pexpr_of (c : PCtx) (hR : c.R = 65) (hg : c.g = 0) (d m : Nat) (hU : DRead 57 c d (unaryP c.e m)) : DRead 29 c d (exprW (unaryP c.e m)) := by
  intro r hr w hC hP
  refine retp_of [_, _] Tryd.func29 rfl Tryd.ntmps29 rfl ?_
  
  obtain ⟨w0, rfl⟩ : ∃ w0, w0 = w := ⟨_, rfl⟩
  have hP' := hP
  dsimp only [PAt, pcell] at hP
  have st := St.of1 [c.pb] hP
  have h20 := hC.len
  have hl := suf_len hr
  have hs := exprW_cont (unaryP c.e m) r
  replace st := St.pushR (r := .tree [] (fun w => PdSs 26 w [] [] [])) st (Chg.refl _ _) (holds_pd ⟨rfl, rfl⟩) (by simp [Res.at?])
  replace st := st.ownNil 112 8
  refine vc_seq ?_
  refine vc_region ?_
  refine vc_e (e_al (l := [_, _, _, _, _, _]) st rfl rfl Tryd.zeroValue26 rfl ?_)
  intro b4 w hb4 st
  refine vc_end ?_
  refine vq_then ?_
  refine vc_keep [(0, _), (1, _), (4, _)] ⟨rfl, rfl, rfl, trivial⟩ ?_
  refine vc_seq ?_
  refine vc_region ?_
  refine vc_y rfl rfl (y_as rfl) ?_
  refine vc_end ?_
  refine vq_then ?_
  refine vc_keep [(0, _), (1, _), (4, _), (5, _)] ⟨rfl, rfl, rfl, rfl, trivial⟩ ?_
  refine vc_seq ?_
  refine vc_region ?_
  refine vc_y rfl rfl (y_mv rfl) ?_
  refine vc_y rfl rfl (y_mv rfl) ?_
  refine vc_e (e_callp [_, _] rfl rfl Tryd.call57 rfl (hU r hr _ (hC.k1 st.chg) (by first | exact st.res (i := 0) rfl | exact st.res (i := 1) rfl | exact st.res (i := 2) rfl | exact st.res (i := 3) rfl | exact st.res (i := 4) rfl | exact st.res (i := 5) rfl | exact st.res (i := 6) rfl | exact st.res (i := 7) rfl | exact st.res (i := 8) rfl | exact st.res (i := 9) rfl)) (by rintro _ w' ⟨f, hf, rfl, ch⟩ a ha; exact And.intro ha (Or.inr ⟨_, rfl, f, by rw [hs, hf], rfl, st.chg.trans ch⟩)) ?_)
  rintro _ w ⟨x0, r0, hx, hsfr0, hlnr0, hP1, cw, ox0, cx0, Sx0, rfl, hQ, hN⟩
  have hNSx0 := hN.le st.chg.size
  first
  | replace st := St.prsT (b := c.pb) st 0 rfl cw (.inl (.head _)) hP1 (holds_ex hQ) hN.2
  | replace st := St.prsT (b := c.pb) st 1 rfl cw (.inl (.head _)) hP1 (holds_ex hQ) hN.2
  | replace st := St.prsT (b := c.pb) st 2 rfl cw (.inl (.head _)) hP1 (holds_ex hQ) hN.2
  | replace st := St.prsT (b := c.pb) st 3 rfl cw (.inl (.head _)) hP1 (holds_ex hQ) hN.2
  | replace st := St.prsT (b := c.pb) st 4 rfl cw (.inl (.head _)) hP1 (holds_ex hQ) hN.2
  | replace st := St.prsT (b := c.pb) st 5 rfl cw (.inl (.head _)) hP1 (holds_ex hQ) hN.2
  | replace st := St.prsT (b := c.pb) st 6 rfl cw (.inl (.head _)) hP1 (holds_ex hQ) hN.2
  | replace st := St.prsT (b := c.pb) st 7 rfl cw (.inl (.head _)) hP1 (holds_ex hQ) hN.2
  | replace st := St.prsT (b := c.pb) st 8 rfl cw (.inl (.head _)) hP1 (holds_ex hQ) hN.2
  | replace st := St.prsT (b := c.pb) st 9 rfl cw (.inl (.head _)) hP1 (holds_ex hQ) hN.2
  dsimp only [setNth] at st
  rw [hx] at hs; dsimp only at hs
  refine vc_e (e_al (l := [_, _, _, _, _, _]) st rfl rfl Tryd.zeroValue26 rfl ?_)
  intro b6 w hb6 st
  first
  | refine vc_e (e_sts (vs := [_, _, _, _, _, _]) st 0 rfl rfl rfl rfl rfl Tryd.sizeOf26 rfl rfl (by first | (right; assumption) | (left; simp)) ?_)
  | refine vc_e (e_sts (vs := [_, _, _, _, _, _]) st 1 rfl rfl rfl rfl rfl Tryd.sizeOf26 rfl rfl (by first | (right; assumption) | (left; simp)) ?_)
  | refine vc_e (e_sts (vs := [_, _, _, _, _, _]) st 2 rfl rfl rfl rfl rfl Tryd.sizeOf26 rfl rfl (by first | (right; assumption) | (left; simp)) ?_)
  | refine vc_e (e_sts (vs := [_, _, _, _, _, _]) st 3 rfl rfl rfl rfl rfl Tryd.sizeOf26 rfl rfl (by first | (right; assumption) | (left; simp)) ?_)
  | refine vc_e (e_sts (vs := [_, _, _, _, _, _]) st 4 rfl rfl rfl rfl rfl Tryd.sizeOf26 rfl rfl (by first | (right; assumption) | (left; simp)) ?_)
  | refine vc_e (e_sts (vs := [_, _, _, _, _, _]) st 5 rfl rfl rfl rfl rfl Tryd.sizeOf26 rfl rfl (by first | (right; assumption) | (left; simp)) ?_)
  | refine vc_e (e_sts (vs := [_, _, _, _, _, _]) st 6 rfl rfl rfl rfl rfl Tryd.sizeOf26 rfl rfl (by first | (right; assumption) | (left; simp)) ?_)
  | refine vc_e (e_sts (vs := [_, _, _, _, _, _]) st 7 rfl rfl rfl rfl rfl Tryd.sizeOf26 rfl rfl (by first | (right; assumption) | (left; simp)) ?_)
  | refine vc_e (e_sts (vs := [_, _, _, _, _, _]) st 8 rfl rfl rfl rfl rfl Tryd.sizeOf26 rfl rfl (by first | (right; assumption) | (left; simp)) ?_)
  intro w st; dsimp only [setNth, wr] at st
  refine vc_end ?_
  refine vq_then ?_
  refine vc_keep [(0, _), (1, _), (4, _), (5, _), (6, _)] ⟨rfl, rfl, rfl, rfl, rfl, trivial⟩ ?_
  refine vc_block ?_
  refine vc_loop (w0 := w0) (M := [c.pb]) (fun (y : ESt) => [(0, .pointer (some ⟨c.pb, 0, none⟩)), (1, .int .i64 (d : Int)), (4, .pointer (some ⟨b4, 0, none⟩)), (5, .slice y.ow y.W.length y.cw), (6, .pointer (some ⟨b6, 0, none⟩))]) (fun (y : ESt) => [.own (.slice y.ow y.W.length y.cw) 112 8 y.W.length y.xs, .tree y.SW (fun w => PdSs 26 w y.W y.xs y.SW), .blk b6 (.cells (exC y.x y.ox y.cx).toArray 26 (0, 0)), .tree y.Sx (fun w => ExR 26 w y.ox y.cx y.x.kids y.Sx), .blk b4 (.cells ex00.toArray 26 (0, 0)), .blk c.pb (.cells (pcell c y.r).toArray c.T (0, 0))]) (fun (y : ESt) _ => y.r <:+ r ∧ y.r.length < r.length ∧ y.W.length + y.r.length ≤ r.length ∧ y.r.length < y.n ∧ Nw w0.heap.size y.SW ∧ Nw w0.heap.size y.Sx ∧ exprW (unaryP c.e m) r = contE (unaryP c.e m) y.n y.W y.x y.r) (fun (y : ESt) => y.r.length) ⟨[], x0, r0, r0.length + 1, none, 0, [], [], ox0, cx0, Sx0⟩ ⟨rfl, rfl, rfl, rfl, rfl, trivial⟩ (st.pick [3, 4, 0, 1, 2, 5] rfl (by decide)) ⟨hsfr0, hlnr0, by simp; omega, by dsimp only; omega, Nw.nil, hNSx0, hs⟩ ?_
  clear st hs
  rintro ⟨W, x, r1, n, ow, cW, xs, SW, ox, cx, Sx⟩ w ⟨hsf1, hlt1, hWl, hn1, hSW, hSx, hs⟩ st
  dsimp only at hsf1 hlt1 hWl hn1 hSW hSx hs st
  have hr1 := hsf1.trans hr
  obtain ⟨n, rfl⟩ : ∃ k, n = k + 1 := ⟨n - 1, by omega⟩
  refine vc_block ?_
  refine vc_seq ?_
  refine vc_region ?_
  refine vc_y rfl rfl (y_mv rfl) ?_
  refine vc_e (e_call [_] rfl rfl Tryd.call58 rfl (phere_any c r1 hr1 _ (hC.k1 st.chg) (by first | exact st.res (i := 0) rfl | exact st.res (i := 1) rfl | exact st.res (i := 2) rfl | exact st.res (i := 3) rfl | exact st.res (i := 4) rfl | exact st.res (i := 5) rfl | exact st.res (i := 6) rfl | exact st.res (i := 7) rfl | exact st.res (i := 8) rfl | exact st.res (i := 9) rfl)) ?_)
  rintro _ w ⟨rfl, cw⟩
  replace st := st.call0 cw
  refine vc_e (e_al (l := [_, _, _, _]) st rfl rfl Tryd.zeroValue53 rfl ?_)
  intro b7 w hb7 st
  first
  | refine vc_e (e_sts (vs := [_, _, _, _]) st 0 rfl rfl rfl rfl rfl Tryd.sizeOf53 rfl rfl (by first | (right; assumption) | (left; simp)) ?_)
  | refine vc_e (e_sts (vs := [_, _, _, _]) st 1 rfl rfl rfl rfl rfl Tryd.sizeOf53 rfl rfl (by first | (right; assumption) | (left; simp)) ?_)
  | refine vc_e (e_sts (vs := [_, _, _, _]) st 2 rfl rfl rfl rfl rfl Tryd.sizeOf53 rfl rfl (by first | (right; assumption) | (left; simp)) ?_)
  | refine vc_e (e_sts (vs := [_, _, _, _]) st 3 rfl rfl rfl rfl rfl Tryd.sizeOf53 rfl rfl (by first | (right; assumption) | (left; simp)) ?_)
  | refine vc_e (e_sts (vs := [_, _, _, _]) st 4 rfl rfl rfl rfl rfl Tryd.sizeOf53 rfl rfl (by first | (right; assumption) | (left; simp)) ?_)
  | refine vc_e (e_sts (vs := [_, _, _, _]) st 5 rfl rfl rfl rfl rfl Tryd.sizeOf53 rfl rfl (by first | (right; assumption) | (left; simp)) ?_)
  | refine vc_e (e_sts (vs := [_, _, _, _]) st 6 rfl rfl rfl rfl rfl Tryd.sizeOf53 rfl rfl (by first | (right; assumption) | (left; simp)) ?_)
  | refine vc_e (e_sts (vs := [_, _, _, _]) st 7 rfl rfl rfl rfl rfl Tryd.sizeOf53 rfl rfl (by first | (right; assumption) | (left; simp)) ?_)
  | refine vc_e (e_sts (vs := [_, _, _, _]) st 8 rfl rfl rfl rfl rfl Tryd.sizeOf53 rfl rfl (by first | (right; assumption) | (left; simp)) ?_)
  intro w st; dsimp only [setNth, wr] at st
  refine vc_end ?_
  refine vq_then ?_
  refine vc_keep [(0, _), (1, _), (4, _), (5, _), (6, _), (7, _)] ⟨rfl, rfl, rfl, rfl, rfl, rfl, trivial⟩ ?_
  refine vc_seq ?_
  refine vc_region ?_
  refine vc_y rfl rfl ((by first | exact y_faz (k := 1) rfl Tryd.underlying53 rfl rfl Tryd.sizeOf9 rfl | exact y_fa (k := 1) rfl Tryd.underlying53 rfl rfl Tryd.sizeOf9 rfl)) ?_
  refine vc_y rfl rfl ((by first | exact y_ld st 0 rfl Tryd.isAgg9 rfl rfl | exact y_ld st 1 rfl Tryd.isAgg9 rfl rfl | exact y_ld st 2 rfl Tryd.isAgg9 rfl rfl | exact y_ld st 3 rfl Tryd.isAgg9 rfl rfl | exact y_ld st 4 rfl Tryd.isAgg9 rfl rfl | exact y_ld st 5 rfl Tryd.isAgg9 rfl rfl | exact y_ld st 6 rfl Tryd.isAgg9 rfl rfl | exact y_ld st 7 rfl Tryd.isAgg9 rfl rfl | exact y_ld st 8 rfl Tryd.isAgg9 rfl rfl)) ?_
  refine vc_e (e_call [_] rfl rfl Tryd.call59 rfl (find_any (here r1).text _ (hg ▸ (hC.k1 st.chg).sig)) ?_)
  rintro _ _ ⟨rfl, rfl⟩
  refine vc_y rfl rfl (y_mv rfl) ?_
  refine vc_y rfl rfl (y_ext rfl rfl) ?_
  refine vc_y rfl rfl (y_ext rfl rfl) ?_
  refine vc_y rfl rfl (y_as rfl) ?_
  refine vc_y rfl rfl (y_as rfl) ?_
  refine vc_end ?_
  refine vq_then ?_
  refine vc_keep [(0, _), (1, _), (4, _), (5, _), (6, _), (7, _), (8, _), (9, _)] ⟨rfl, rfl, rfl, rfl, rfl, rfl, rfl, rfl, trivial⟩ ?_
  refine vc_cut (w0 := w0) (M := [c.pb]) (fun (b : Bool) => [(0, .pointer (some ⟨c.pb, 0, none⟩)), (1, .int .i64 (d : Int)), (4, .pointer (some ⟨b4, 0, none⟩)), (5, .slice (ESt.mk W x r1 n ow cW xs SW ox cx Sx).ow (ESt.mk W x r1 n ow cW xs SW ox cx Sx).W.length (ESt.mk W x r1 n ow cW xs SW ox cx Sx).cw), (6, .pointer (some ⟨b6, 0, none⟩)), (7, .pointer (some ⟨b7, 0, none⟩)), (8, .int .u8 (((findO (here r1).text).getD 0 : Nat) : Int)), (9, .bool b)]) (fun _ => [.blk b7 (.cells (tkL (here r1)).toArray 53 (0, 0)), .own (.slice (ESt.mk W x r1 n ow cW xs SW ox cx Sx).ow (ESt.mk W x r1 n ow cW xs SW ox cx Sx).W.length (ESt.mk W x r1 n ow cW xs SW ox cx Sx).cw) 112 8 (ESt.mk W x r1 n ow cW xs SW ox cx Sx).W.length (ESt.mk W x r1 n ow cW xs SW ox cx Sx).xs, .tree (ESt.mk W x r1 n ow cW xs SW ox cx Sx).SW (fun w => PdSs 26 w (ESt.mk W x r1 n ow cW xs SW ox cx Sx).W (ESt.mk W x r1 n ow cW xs SW ox cx Sx).xs (ESt.mk W x r1 n ow cW xs SW ox cx Sx).SW), .blk b6 (.cells (exC (ESt.mk W x r1 n ow cW xs SW ox cx Sx).x (ESt.mk W x r1 n ow cW xs SW ox cx Sx).ox (ESt.mk W x r1 n ow cW xs SW ox cx Sx).cx).toArray 26 (0, 0)), .tree (ESt.mk W x r1 n ow cW xs SW ox cx Sx).Sx (fun w => ExR 26 w (ESt.mk W x r1 n ow cW xs SW ox cx Sx).ox (ESt.mk W x r1 n ow cW xs SW ox cx Sx).cx (ESt.mk W x r1 n ow cW xs SW ox cx Sx).x.kids (ESt.mk W x r1 n ow cW xs SW ox cx Sx).Sx), .blk b4 (.cells ex00.toArray 26 (0, 0)), .blk c.pb (.cells (pcell c r1).toArray c.T (0, 0))]) (fun b _ => b = (opT (here r1)).isSome) ?_ ?_
  ·
    refine vc_region ?_
    refine vc_y rfl rfl (y_mv rfl) ?_
    refine vc_e (e_mvb rfl rfl rfl ?_ ?_)
    · intro hg23
      try simp only [decide_eq_true_eq, decide_eq_false_iff_not, Bool.not_eq_true', Bool.not_eq_false', Bool.not_eq_true, Bool.not_eq_false, Int.not_lt, Int.not_le, Nat.not_lt, Nat.not_le, Bool.not_true, Bool.not_false, Bool.true_eq_false, Bool.false_eq_true] at hg23
      refine vc_y rfl rfl (y_fa0 rfl Tryd.underlying53 rfl rfl Tryd.sizeOf51 rfl) ?_
      refine vc_y rfl rfl ((by first | exact y_ld st 0 rfl Tryd.isAgg51 rfl rfl | exact y_ld st 1 rfl Tryd.isAgg51 rfl rfl | exact y_ld st 2 rfl Tryd.isAgg51 rfl rfl | exact y_ld st 3 rfl Tryd.isAgg51 rfl rfl | exact y_ld st 4 rfl Tryd.isAgg51 rfl rfl | exact y_ld st 5 rfl Tryd.isAgg51 rfl rfl | exact y_ld st 6 rfl Tryd.isAgg51 rfl rfl | exact y_ld st 7 rfl Tryd.isAgg51 rfl rfl | exact y_ld st 8 rfl Tryd.isAgg51 rfl rfl)) ?_
      refine vc_y rfl rfl (y_eqi rfl rfl) ?_
      refine vc_y rfl rfl (y_pickt rfl rfl) ?_
      refine vc_y rfl rfl (y_as rfl) ?_
      refine vc_end ?_
      refine vq_meet (decide (((here r1).kind : Int) = 4)) ⟨rfl, rfl, rfl, rfl, rfl, rfl, rfl, rfl, trivial⟩ st ?_
      · show decide _ = _
        have hk4 : ((here r1).kind : Int) = 4 ↔ (here r1).kind = 4 := by omega
        unfold opT
        by_cases hk : (here r1).kind = 4
        · simp [hk, hg23]
        · simp [hk, hk4]
    · intro hg23
      try simp only [decide_eq_true_eq, decide_eq_false_iff_not, Bool.not_eq_true', Bool.not_eq_false', Bool.not_eq_true, Bool.not_eq_false, Int.not_lt, Int.not_le, Nat.not_lt, Nat.not_le, Bool.not_true, Bool.not_false, Bool.true_eq_false, Bool.false_eq_true] at hg23
      refine vc_e (e_skip rfl rfl ?_)
      refine vc_e (e_skip rfl rfl ?_)
      refine vc_e (e_skip rfl rfl ?_)
      refine vc_y rfl rfl (y_pickf rfl rfl) ?_
      refine vc_y rfl rfl (y_as rfl) ?_
      refine vc_end ?_
      refine vq_meet false ⟨rfl, rfl, rfl, rfl, rfl, rfl, rfl, rfl, trivial⟩ st ?_
      · show false = _
        unfold opT
        split
        · exact hg23.symm
        · rfl
  ·
    clear st
    rintro isop w hop st
    dsimp only at hop st
    refine vc_cut (w0 := w0) (M := [c.pb]) (fun (z : ESt) => [(0, .pointer (some ⟨c.pb, 0, none⟩)), (1, .int .i64 (d : Int)), (4, .pointer (some ⟨b4, 0, none⟩)), (5, .slice z.ow z.W.length z.cw), (6, .pointer (some ⟨b6, 0, none⟩)), (7, .pointer (some ⟨b7, 0, none⟩)), (8, .int .u8 (((findO (here r1).text).getD 0 : Nat) : Int)), (9, .bool isop)]) (fun (z : ESt) => [.blk b7 (.cells (tkL (here r1)).toArray 53 (0, 0)), .own (.slice z.ow z.W.length z.cw) 112 8 z.W.length z.xs, .tree z.SW (fun w => PdSs 26 w z.W z.xs z.SW), .blk b6 (.cells (exC z.x z.ox z.cx).toArray 26 (0, 0)), .tree z.Sx (fun w => ExR 26 w z.ox z.cx z.x.kids z.Sx), .blk b4 (.cells ex00.toArray 26 (0, 0)), .blk c.pb (.cells (pcell c r1).toArray c.T (0, 0))]) (fun (z : ESt) _ => z.W.length ≤ W.length ∧ Nw w0.heap.size z.SW ∧ Nw w0.heap.size z.Sx ∧ redu (!isop) (lvlO (((findO (here r1).text).getD 0 : Nat) : Int)) W x = (z.W, z.x) ∧ (isop = false → z.W = [])) ?_ ?_
    ·
      refine vc_block ?_
      refine vc_loop (w0 := w0) (M := [c.pb]) (fun (z : ESt) => [(0, .pointer (some ⟨c.pb, 0, none⟩)), (1, .int .i64 (d : Int)), (4, .pointer (some ⟨b4, 0, none⟩)), (5, .slice z.ow z.W.length z.cw), (6, .pointer (some ⟨b6, 0, none⟩)), (7, .pointer (some ⟨b7, 0, none⟩)), (8, .int .u8 (((findO (here r1).text).getD 0 : Nat) : Int)), (9, .bool isop)]) (fun (z : ESt) => [.blk b7 (.cells (tkL (here r1)).toArray 53 (0, 0)), .own (.slice z.ow z.W.length z.cw) 112 8 z.W.length z.xs, .tree z.SW (fun w => PdSs 26 w z.W z.xs z.SW), .blk b6 (.cells (exC z.x z.ox z.cx).toArray 26 (0, 0)), .tree z.Sx (fun w => ExR 26 w z.ox z.cx z.x.kids z.Sx), .blk b4 (.cells ex00.toArray 26 (0, 0)), .blk c.pb (.cells (pcell c r1).toArray c.T (0, 0))]) (fun (z : ESt) _ => z.W.length ≤ W.length ∧ Nw w0.heap.size z.SW ∧ Nw w0.heap.size z.Sx ∧ redu (!isop) (lvlO (((findO (here r1).text).getD 0 : Nat) : Int)) W x = redu (!isop) (lvlO (((findO (here r1).text).getD 0 : Nat) : Int)) z.W z.x) (fun (z : ESt) => z.W.length) ⟨W, x, r1, n, ow, cW, xs, SW, ox, cx, Sx⟩ ⟨rfl, rfl, rfl, rfl, rfl, rfl, rfl, rfl, trivial⟩ st ⟨Nat.le_refl _, hSW, hSx, rfl⟩ ?_
      clear st
      rintro ⟨zW, zx, zr, zn, zow, zcW, zxs, zSW, zox, zcx, zSx⟩ w ⟨hzl, hzSW, hzSx, hzr⟩ st
      dsimp only at hzl hzSW hzSx hzr st
      refine vc_seq ?_
      refine vc_seq ?_
      refine vc_region ?_
      refine vc_y rfl rfl (y_mv rfl) ?_
      refine vc_y rfl rfl (y_lensl rfl Tryd.underlying107) ?_
      refine vc_y rfl rfl (y_gtr rfl rfl) ?_
      refine vc_e (e_mvb rfl rfl rfl ?_ ?_)
      · intro hg31
        try simp only [decide_eq_true_eq, decide_eq_false_iff_not, Bool.not_eq_true', Bool.not_eq_false', Bool.not_eq_true, Bool.not_eq_false, Int.not_lt, Int.not_le, Nat.not_lt, Nat.not_le, Bool.not_true, Bool.not_false, Bool.true_eq_false, Bool.false_eq_true] at hg31
        obtain ⟨⟨po, pa, pl⟩, W2, rfl⟩ : ∃ p W2, zW = p :: W2 := by cases zW with | nil => simp at hg31 | cons p W2 => exact ⟨p, W2, rfl⟩
        obtain ⟨ol, cl, Sl, xr, Sr, rfl, hS, hRl, hPr⟩ := (st.res (i := 2) rfl).1
        have hxl := hPr.len
        have hzl2 : W2.length + 1 ≤ W.length := by simpa using hzl
        have hcap := own_cap (st.res (i := 1) rfl)
        obtain ⟨gb, rfl⟩ := own_some (st.res (i := 1) rfl) (by simp)
        refine vc_y rfl rfl (y_mv rfl) ?_
        refine vc_y rfl rfl (y_not rfl) ?_
        refine vc_e (e_mvb rfl rfl rfl ?_ ?_)
        · intro hg34
          try simp only [decide_eq_true_eq, decide_eq_false_iff_not, Bool.not_eq_true', Bool.not_eq_false', Bool.not_eq_true, Bool.not_eq_false, Int.not_lt, Int.not_le, Nat.not_lt, Nat.not_le, Bool.not_true, Bool.not_false, Bool.true_eq_false, Bool.false_eq_true] at hg34
          refine vc_e (e_skip rfl rfl ?_)
          refine vc_e (e_skip rfl rfl ?_)
          refine vc_e (e_skip rfl rfl ?_)
          refine vc_e (e_skip rfl rfl ?_)
          refine vc_e (e_skip rfl rfl ?_)
          refine vc_e (e_skip rfl rfl ?_)
          refine vc_e (e_skip rfl rfl ?_)
          refine vc_e (e_skip rfl rfl ?_)
          refine vc_e (e_skip rfl rfl ?_)
          refine vc_e (e_skip rfl rfl ?_)
          refine vc_e (e_skip rfl rfl ?_)
          refine vc_y rfl rfl (y_pickt rfl rfl) ?_
          refine vc_y rfl rfl (y_pickt rfl rfl) ?_
          refine vc_end ?_
          refine vq_then ?_
          refine vc_keep [(0, _), (1, _), (4, _), (5, _), (6, _), (7, _), (8, _), (9, _), (47, _)] ⟨rfl, rfl, rfl, rfl, rfl, rfl, rfl, rfl, rfl, trivial⟩ ?_
          refine vc_ift rfl ?_
          refine vc_code_skip ?_
          refine vq_then ?_
          refine vc_keep [(0, _), (1, _), (4, _), (5, _), (6, _), (7, _), (8, _), (9, _)] ⟨rfl, rfl, rfl, rfl, rfl, rfl, rfl, rfl, trivial⟩ ?_
          refine vc_block ?_
          refine vc_seq ?_
          refine vc_region ?_
          subst hS
          have st0 := (st.pick [2, 0, 1, 3, 4, 5, 6] rfl (by decide)).split hzSW.1 hPr hRl loc_pd loc_ex
          replace st := st0.pick [2, 3, 0, 1, 4, 5, 6, 7] rfl (by decide)
          refine vc_y rfl rfl (y_mv rfl) ?_
          refine vc_y rfl rfl (y_mv rfl) ?_
          refine vc_y rfl rfl (y_lensl rfl Tryd.underlying107) ?_
          refine vc_y rfl rfl (y_sub rfl rfl (by simp : _ = (W2.length : Int)) (by omega) (by omega)) ?_
          refine vc_y rfl rfl ((by first | exact y_ia0 (k := W2.length) rfl rfl Tryd.underlying107 Tryd.sizeOf112 rfl (by simp) | exact y_ia (k := W2.length) rfl rfl Tryd.underlying107 Tryd.sizeOf112 rfl (by simp))) ?_
          refine vc_y rfl rfl ((by first | exact y_ldoa (vs := pdC (po, pa, pl) ol cl) st 1 rfl Tryd.isAgg112 Tryd.sizeOf112 rfl rfl (fun j v hj => (app_at hxl).trans hj) | exact y_lda (vs := [_, _, _, _, _, _, _, _]) st 0 rfl Tryd.isAgg112 Tryd.sizeOf112 rfl rfl | exact y_lda (vs := [_, _, _, _, _, _, _, _]) st 1 rfl Tryd.isAgg112 Tryd.sizeOf112 rfl rfl | exact y_lda (vs := [_, _, _, _, _, _, _, _]) st 2 rfl Tryd.isAgg112 Tryd.sizeOf112 rfl rfl | exact y_lda (vs := [_, _, _, _, _, _, _, _]) st 3 rfl Tryd.isAgg112 Tryd.sizeOf112 rfl rfl | exact y_lda (vs := [_, _, _, _, _, _, _, _]) st 4 rfl Tryd.isAgg112 Tryd.sizeOf112 rfl rfl | exact y_lda (vs := [_, _, _, _, _, _, _, _]) st 5 rfl Tryd.isAgg112 Tryd.sizeOf112 rfl rfl | exact y_lda (vs := [_, _, _, _, _, _, _, _]) st 6 rfl Tryd.isAgg112 Tryd.sizeOf112 rfl rfl | exact y_lda (vs := [_, _, _, _, _, _, _, _]) st 7 rfl Tryd.isAgg112 Tryd.sizeOf112 rfl rfl | exact y_lda (vs := [_, _, _, _, _, _, _, _]) st 8 rfl Tryd.isAgg112 Tryd.sizeOf112 rfl rfl)) ?_
          refine vc_e (e_al (l := [_, _, _, _, _, _, _, _]) st rfl rfl Tryd.zeroValue112 rfl ?_)
          intro b10 w hb10 st
          first
          | refine vc_e (e_sts (vs := [_, _, _, _, _, _, _, _]) st 0 rfl rfl rfl rfl rfl Tryd.sizeOf112 rfl rfl (by first | (right; assumption) | (left; simp)) ?_)
          | refine vc_e (e_sts (vs := [_, _, _, _, _, _, _, _]) st 1 rfl rfl rfl rfl rfl Tryd.sizeOf112 rfl rfl (by first | (right; assumption) | (left; simp)) ?_)
          | refine vc_e (e_sts (vs := [_, _, _, _, _, _, _, _]) st 2 rfl rfl rfl rfl rfl Tryd.sizeOf112 rfl rfl (by first | (right; assumption) | (left; simp)) ?_)
          | refine vc_e (e_sts (vs := [_, _, _, _, _, _, _, _]) st 3 rfl rfl rfl rfl rfl Tryd.sizeOf112 rfl rfl (by first | (right; assumption) | (left; simp)) ?_)
          | refine vc_e (e_sts (vs := [_, _, _, _, _, _, _, _]) st 4 rfl rfl rfl rfl rfl Tryd.sizeOf112 rfl rfl (by first | (right; assumption) | (left; simp)) ?_)
          | refine vc_e (e_sts (vs := [_, _, _, _, _, _, _, _]) st 5 rfl rfl rfl rfl rfl Tryd.sizeOf112 rfl rfl (by first | (right; assumption) | (left; simp)) ?_)
          | refine vc_e (e_sts (vs := [_, _, _, _, _, _, _, _]) st 6 rfl rfl rfl rfl rfl Tryd.sizeOf112 rfl rfl (by first | (right; assumption) | (left; simp)) ?_)
          | refine vc_e (e_sts (vs := [_, _, _, _, _, _, _, _]) st 7 rfl rfl rfl rfl rfl Tryd.sizeOf112 rfl rfl (by first | (right; assumption) | (left; simp)) ?_)
          | refine vc_e (e_sts (vs := [_, _, _, _, _, _, _, _]) st 8 rfl rfl rfl rfl rfl Tryd.sizeOf112 rfl rfl (by first | (right; assumption) | (left; simp)) ?_)
          intro w st; dsimp only [setNth, wr] at st
          refine vc_end ?_
          refine vq_then ?_
          refine vc_keep [(0, _), (1, _), (4, _), (5, _), (6, _), (7, _), (8, _), (9, _), (10, _)] ⟨rfl, rfl, rfl, rfl, rfl, rfl, rfl, rfl, rfl, trivial⟩ ?_
          refine vc_seq ?_
          refine vc_region ?_
          refine vc_y rfl rfl (y_mv rfl) ?_
          refine vc_y rfl rfl (y_mv rfl) ?_
          refine vc_y rfl rfl (y_lensl rfl Tryd.underlying107) ?_
          refine vc_y rfl rfl (y_sub rfl rfl (by simp : _ = (W2.length : Int)) (by omega) (by omega)) ?_
          refine vc_y rfl rfl (y_slh (j := W2.length) rfl rfl Tryd.underlying107 Tryd.sizeOf112 rfl (by show W2.length ≤ zcW; simp at hcap; omega)) ?_
          refine vc_y rfl rfl (y_as rfl) ?_
          refine vc_end ?_
          refine vq_then ?_
          refine vc_keep [(0, _), (1, _), (4, _), (5, _), (6, _), (7, _), (8, _), (9, _), (10, _)] ⟨rfl, rfl, rfl, rfl, rfl, rfl, rfl, rfl, rfl, trivial⟩ ?_
          refine vc_region ?_
          replace st := (st.pick [2, 0, 1, 3, 4, 5, 6, 7, 8] rfl (by decide)).shrink (m := W2.length) (by simp) hxl
          refine vc_y rfl rfl (y_fa0 rfl Tryd.underlying112 rfl rfl Tryd.sizeOf23 rfl) ?_
          refine vc_y rfl rfl ((by first | exact y_ld st 0 rfl Tryd.isAgg23 rfl rfl | exact y_ld st 1 rfl Tryd.isAgg23 rfl rfl | exact y_ld st 2 rfl Tryd.isAgg23 rfl rfl | exact y_ld st 3 rfl Tryd.isAgg23 rfl rfl | exact y_ld st 4 rfl Tryd.isAgg23 rfl rfl | exact y_ld st 5 rfl Tryd.isAgg23 rfl rfl | exact y_ld st 6 rfl Tryd.isAgg23 rfl rfl | exact y_ld st 7 rfl Tryd.isAgg23 rfl rfl | exact y_ld st 8 rfl Tryd.isAgg23 rfl rfl)) ?_
          refine vc_y rfl rfl ((by first | exact y_faz (k := 2) rfl Tryd.underlying112 rfl rfl Tryd.sizeOf26 rfl | exact y_fa (k := 2) rfl Tryd.underlying112 rfl rfl Tryd.sizeOf26 rfl)) ?_
          refine vc_y rfl rfl ((by first | exact y_lda (vs := [_, _, _, _, _, _]) st 0 rfl Tryd.isAgg26 Tryd.sizeOf26 rfl rfl | exact y_lda (vs := [_, _, _, _, _, _]) st 1 rfl Tryd.isAgg26 Tryd.sizeOf26 rfl rfl | exact y_lda (vs := [_, _, _, _, _, _]) st 2 rfl Tryd.isAgg26 Tryd.sizeOf26 rfl rfl | exact y_lda (vs := [_, _, _, _, _, _]) st 3 rfl Tryd.isAgg26 Tryd.sizeOf26 rfl rfl | exact y_lda (vs := [_, _, _, _, _, _]) st 4 rfl Tryd.isAgg26 Tryd.sizeOf26 rfl rfl | exact y_lda (vs := [_, _, _, _, _, _]) st 5 rfl Tryd.isAgg26 Tryd.sizeOf26 rfl rfl | exact y_lda (vs := [_, _, _, _, _, _]) st 6 rfl Tryd.isAgg26 Tryd.sizeOf26 rfl rfl | exact y_lda (vs := [_, _, _, _, _, _]) st 7 rfl Tryd.isAgg26 Tryd.sizeOf26 rfl rfl | exact y_lda (vs := [_, _, _, _, _, _]) st 8 rfl Tryd.isAgg26 Tryd.sizeOf26 rfl rfl)) ?_
          refine vc_y rfl rfl ((by first | exact y_lda (vs := [_, _, _, _, _, _]) st 0 rfl Tryd.isAgg26 Tryd.sizeOf26 rfl rfl | exact y_lda (vs := [_, _, _, _, _, _]) st 1 rfl Tryd.isAgg26 Tryd.sizeOf26 rfl rfl | exact y_lda (vs := [_, _, _, _, _, _]) st 2 rfl Tryd.isAgg26 Tryd.sizeOf26 rfl rfl | exact y_lda (vs := [_, _, _, _, _, _]) st 3 rfl Tryd.isAgg26 Tryd.sizeOf26 rfl rfl | exact y_lda (vs := [_, _, _, _, _, _]) st 4 rfl Tryd.isAgg26 Tryd.sizeOf26 rfl rfl | exact y_lda (vs := [_, _, _, _, _, _]) st 5 rfl Tryd.isAgg26 Tryd.sizeOf26 rfl rfl | exact y_lda (vs := [_, _, _, _, _, _]) st 6 rfl Tryd.isAgg26 Tryd.sizeOf26 rfl rfl | exact y_lda (vs := [_, _, _, _, _, _]) st 7 rfl Tryd.isAgg26 Tryd.sizeOf26 rfl rfl | exact y_lda (vs := [_, _, _, _, _, _]) st 8 rfl Tryd.isAgg26 Tryd.sizeOf26 rfl rfl)) ?_
          refine vc_e (e_bsn (l := exC pl ol cl ++ exC zx zox zcx) (E := 26) st [(0, _), (1, _)] rfl rfl rfl (fun w => by simp [Instr.buildSlice, run_underlying Tryd.underlying24, Tryd.sizeOf26, Tryd.zeroValue26, Instr.fill, newRow, newObj, Sem.run, go_sem, Value.cells]) ?_)
          intro b64 w hb64 st
          refine vc_y rfl rfl ((by first | exact y_faz (k := 1) rfl Tryd.underlying112 rfl rfl Tryd.sizeOf3 rfl | exact y_fa (k := 1) rfl Tryd.underlying112 rfl rfl Tryd.sizeOf3 rfl)) ?_
          refine vc_y rfl rfl ((by first | exact y_ld st 0 rfl Tryd.isAgg3 rfl rfl | exact y_ld st 1 rfl Tryd.isAgg3 rfl rfl | exact y_ld st 2 rfl Tryd.isAgg3 rfl rfl | exact y_ld st 3 rfl Tryd.isAgg3 rfl rfl | exact y_ld st 4 rfl Tryd.isAgg3 rfl rfl | exact y_ld st 5 rfl Tryd.isAgg3 rfl rfl | exact y_ld st 6 rfl Tryd.isAgg3 rfl rfl | exact y_ld st 7 rfl Tryd.isAgg3 rfl rfl | exact y_ld st 8 rfl Tryd.isAgg3 rfl rfl)) ?_
          refine vc_y rfl rfl (y_bld (.agg #[_, _, _, _, _, _]) [(0, _), (1, _), (4, _), (5, _)] rfl (fun w => by simp [Instr.build, go_sem] <;> repeat' constructor)) ?_
          first
          | refine vc_e (e_sts (vs := [_, _, _, _, _, _]) st 0 rfl rfl rfl rfl rfl Tryd.sizeOf26 rfl rfl (by first | (right; assumption) | (left; simp)) ?_)
          | refine vc_e (e_sts (vs := [_, _, _, _, _, _]) st 1 rfl rfl rfl rfl rfl Tryd.sizeOf26 rfl rfl (by first | (right; assumption) | (left; simp)) ?_)
          | refine vc_e (e_sts (vs := [_, _, _, _, _, _]) st 2 rfl rfl rfl rfl rfl Tryd.sizeOf26 rfl rfl (by first | (right; assumption) | (left; simp)) ?_)
          | refine vc_e (e_sts (vs := [_, _, _, _, _, _]) st 3 rfl rfl rfl rfl rfl Tryd.sizeOf26 rfl rfl (by first | (right; assumption) | (left; simp)) ?_)
          | refine vc_e (e_sts (vs := [_, _, _, _, _, _]) st 4 rfl rfl rfl rfl rfl Tryd.sizeOf26 rfl rfl (by first | (right; assumption) | (left; simp)) ?_)
          | refine vc_e (e_sts (vs := [_, _, _, _, _, _]) st 5 rfl rfl rfl rfl rfl Tryd.sizeOf26 rfl rfl (by first | (right; assumption) | (left; simp)) ?_)
          | refine vc_e (e_sts (vs := [_, _, _, _, _, _]) st 6 rfl rfl rfl rfl rfl Tryd.sizeOf26 rfl rfl (by first | (right; assumption) | (left; simp)) ?_)
          | refine vc_e (e_sts (vs := [_, _, _, _, _, _]) st 7 rfl rfl rfl rfl rfl Tryd.sizeOf26 rfl rfl (by first | (right; assumption) | (left; simp)) ?_)
          | refine vc_e (e_sts (vs := [_, _, _, _, _, _]) st 8 rfl rfl rfl rfl rfl Tryd.sizeOf26 rfl rfl (by first | (right; assumption) | (left; simp)) ?_)
          intro w st; dsimp only [setNth, wr] at st
          refine vc_end ?_
          refine vq_block ?_
          refine vq_again ⟨W2, binE po pa pl zx, zr, zn, some ⟨gb, 0, none⟩, zcW, xr, Sr, some ⟨b64, 0, none⟩, 2, b64 :: (Sl ++ zSx)⟩  ⟨rfl, rfl, rfl, rfl, rfl, rfl, rfl, rfl, trivial⟩ (by
            have hE := ex_two (st.res (i := 0) rfl) (st.res (i := 5) rfl).1 (st.res (i := 7) rfl).1
            exact (((st.pick [0, 5, 7, 3, 1, 4, 6, 8, 9] rfl (by decide)).joinN 3 (q := .tree (b64 :: (Sl ++ zSx)) fun w => ExR 26 w (some ⟨b64, 0, none⟩) 2 [pl, zx] (b64 :: (Sl ++ zSx))) (fun k hk => by
              rcases List.mem_cons.1 hk with rfl | hk
              · exact ⟨_, .head _, .head _⟩
              · rcases List.mem_append.1 hk with h | h
                · exact ⟨_, .tail _ (.head _), h⟩
                · exact ⟨_, .tail _ (.tail _ (.head _)), h⟩) (holds_ex hE))).pick [1, 2, 3, 4, 0, 5, 6] rfl (by decide)) ?_ ?_
          · have hrd : redu (!isop) (lvlO (((findO (here r1).text).getD 0 : Nat) : Int)) ((po, pa, pl) :: W2) zx = redu (!isop) (lvlO (((findO (here r1).text).getD 0 : Nat) : Int)) W2 (binE po pa pl zx) := by
              simp only [redu]
              rw [if_pos (.inl (by rw [hg34]; rfl))]
            refine ⟨by simp at hzl; dsimp only; omega, hzSW.left, ?_, hzr.trans hrd⟩
            refine Nw.app (S := [b64]) ⟨by simp, by simpa using hb64⟩ (hzSW.right.app hzSx (st.ne (i := 5) (j := 7) (by decide) rfl rfl)) (fun b hb hb' => ?_)
            rcases List.mem_append.1 hb' with h | h
            · exact st.ne (i := 0) (j := 5) (by decide) rfl rfl b hb h
            · exact st.ne (i := 0) (j := 7) (by decide) rfl rfl b hb h
          · simp
        · intro hg34
          try simp only [decide_eq_true_eq, decide_eq_false_iff_not, Bool.not_eq_true', Bool.not_eq_false', Bool.not_eq_true, Bool.not_eq_false, Int.not_lt, Int.not_le, Nat.not_lt, Nat.not_le, Bool.not_true, Bool.not_false, Bool.true_eq_false, Bool.false_eq_true] at hg34
          refine vc_y rfl rfl (y_mv rfl) ?_
          refine vc_y rfl rfl (y_mv rfl) ?_
          refine vc_y rfl rfl (y_lensl rfl Tryd.underlying107) ?_
          refine vc_y rfl rfl (y_sub rfl rfl (by simp : _ = (W2.length : Int)) (by omega) (by omega)) ?_
          refine vc_y rfl rfl ((by first | exact y_ia0 (k := W2.length) rfl rfl Tryd.underlying107 Tryd.sizeOf112 rfl (by simp) | exact y_ia (k := W2.length) rfl rfl Tryd.underlying107 Tryd.sizeOf112 rfl (by simp))) ?_
          refine vc_y rfl rfl (y_fa0 rfl Tryd.underlying112 rfl rfl Tryd.sizeOf23 rfl) ?_
          refine vc_y rfl rfl ((by first | exact y_ldo st 1 rfl Tryd.isAgg23 rfl (app_at (j := 0) hxl) | exact y_ld st 0 rfl Tryd.isAgg23 rfl rfl | exact y_ld st 1 rfl Tryd.isAgg23 rfl rfl | exact y_ld st 2 rfl Tryd.isAgg23 rfl rfl | exact y_ld st 3 rfl Tryd.isAgg23 rfl rfl | exact y_ld st 4 rfl Tryd.isAgg23 rfl rfl | exact y_ld st 5 rfl Tryd.isAgg23 rfl rfl | exact y_ld st 6 rfl Tryd.isAgg23 rfl rfl | exact y_ld st 7 rfl Tryd.isAgg23 rfl rfl | exact y_ld st 8 rfl Tryd.isAgg23 rfl rfl)) ?_
          refine vc_e (e_call [_] rfl rfl Tryd.call15 rfl (level_any _ _ (hg ▸ (hC.k1 st.chg).sig)) ?_)
          rintro _ _ ⟨rfl, rfl⟩
          refine vc_y rfl rfl (y_mv rfl) ?_
          refine vc_e (e_call [_] rfl rfl Tryd.call15 rfl (level_any _ _ (hg ▸ (hC.k1 st.chg).sig)) ?_)
          rintro _ _ ⟨rfl, rfl⟩
          refine vc_y rfl rfl (y_geq rfl rfl) ?_
          refine vc_y rfl rfl (y_pickf rfl rfl) ?_
          refine vc_y rfl rfl (y_pickt rfl rfl) ?_
          refine vc_end ?_
          refine vq_then ?_
          refine vc_keep [(0, _), (1, _), (4, _), (5, _), (6, _), (7, _), (8, _), (9, _), (47, _)] ⟨rfl, rfl, rfl, rfl, rfl, rfl, rfl, rfl, rfl, trivial⟩ ?_
          refine vc_ifs rfl ?_ ?_
          · intro hc47
            try simp only [decide_eq_true_eq, decide_eq_false_iff_not, Bool.not_eq_true', Bool.not_eq_false', Bool.not_eq_true, Bool.not_eq_false, Int.not_lt, Int.not_le, Nat.not_lt, Nat.not_le, Bool.not_true, Bool.not_false, Bool.true_eq_false, Bool.false_eq_true] at hc47
            refine vc_code_skip ?_
            refine vq_then ?_
            refine vc_keep [(0, _), (1, _), (4, _), (5, _), (6, _), (7, _), (8, _), (9, _)] ⟨rfl, rfl, rfl, rfl, rfl, rfl, rfl, rfl, trivial⟩ ?_
            refine vc_block ?_
            refine vc_seq ?_
            refine vc_region ?_
            subst hS
            have st0 := (st.pick [2, 0, 1, 3, 4, 5, 6] rfl (by decide)).split hzSW.1 hPr hRl loc_pd loc_ex
            replace st := st0.pick [2, 3, 0, 1, 4, 5, 6, 7] rfl (by decide)
            refine vc_y rfl rfl (y_mv rfl) ?_
            refine vc_y rfl rfl (y_mv rfl) ?_
            refine vc_y rfl rfl (y_lensl rfl Tryd.underlying107) ?_
            refine vc_y rfl rfl (y_sub rfl rfl (by simp : _ = (W2.length : Int)) (by omega) (by omega)) ?_
            refine vc_y rfl rfl ((by first | exact y_ia0 (k := W2.length) rfl rfl Tryd.underlying107 Tryd.sizeOf112 rfl (by simp) | exact y_ia (k := W2.length) rfl rfl Tryd.underlying107 Tryd.sizeOf112 rfl (by simp))) ?_
            refine vc_y rfl rfl ((by first | exact y_ldoa (vs := pdC (po, pa, pl) ol cl) st 1 rfl Tryd.isAgg112 Tryd.sizeOf112 rfl rfl (fun j v hj => (app_at hxl).trans hj) | exact y_lda (vs := [_, _, _, _, _, _, _, _]) st 0 rfl Tryd.isAgg112 Tryd.sizeOf112 rfl rfl | exact y_lda (vs := [_, _, _, _, _, _, _, _]) st 1 rfl Tryd.isAgg112 Tryd.sizeOf112 rfl rfl | exact y_lda (vs := [_, _, _, _, _, _, _, _]) st 2 rfl Tryd.isAgg112 Tryd.sizeOf112 rfl rfl | exact y_lda (vs := [_, _, _, _, _, _, _, _]) st 3 rfl Tryd.isAgg112 Tryd.sizeOf112 rfl rfl | exact y_lda (vs := [_, _, _, _, _, _, _, _]) st 4 rfl Tryd.isAgg112 Tryd.sizeOf112 rfl rfl | exact y_lda (vs := [_, _, _, _, _, _, _, _]) st 5 rfl Tryd.isAgg112 Tryd.sizeOf112 rfl rfl | exact y_lda (vs := [_, _, _, _, _, _, _, _]) st 6 rfl Tryd.isAgg112 Tryd.sizeOf112 rfl rfl | exact y_lda (vs := [_, _, _, _, _, _, _, _]) st 7 rfl Tryd.isAgg112 Tryd.sizeOf112 rfl rfl | exact y_lda (vs := [_, _, _, _, _, _, _, _]) st 8 rfl Tryd.isAgg112 Tryd.sizeOf112 rfl rfl)) ?_
            refine vc_e (e_al (l := [_, _, _, _, _, _, _, _]) st rfl rfl Tryd.zeroValue112 rfl ?_)
            intro b10 w hb10 st
            first
            | refine vc_e (e_sts (vs := [_, _, _, _, _, _, _, _]) st 0 rfl rfl rfl rfl rfl Tryd.sizeOf112 rfl rfl (by first | (right; assumption) | (left; simp)) ?_)
            | refine vc_e (e_sts (vs := [_, _, _, _, _, _, _, _]) st 1 rfl rfl rfl rfl rfl Tryd.sizeOf112 rfl rfl (by first | (right; assumption) | (left; simp)) ?_)
            | refine vc_e (e_sts (vs := [_, _, _, _, _, _, _, _]) st 2 rfl rfl rfl rfl rfl Tryd.sizeOf112 rfl rfl (by first | (right; assumption) | (left; simp)) ?_)
            | refine vc_e (e_sts (vs := [_, _, _, _, _, _, _, _]) st 3 rfl rfl rfl rfl rfl Tryd.sizeOf112 rfl rfl (by first | (right; assumption) | (left; simp)) ?_)
            | refine vc_e (e_sts (vs := [_, _, _, _, _, _, _, _]) st 4 rfl rfl rfl rfl rfl Tryd.sizeOf112 rfl rfl (by first | (right; assumption) | (left; simp)) ?_)
            | refine vc_e (e_sts (vs := [_, _, _, _, _, _, _, _]) st 5 rfl rfl rfl rfl rfl Tryd.sizeOf112 rfl rfl (by first | (right; assumption) | (left; simp)) ?_)
            | refine vc_e (e_sts (vs := [_, _, _, _, _, _, _, _]) st 6 rfl rfl rfl rfl rfl Tryd.sizeOf112 rfl rfl (by first | (right; assumption) | (left; simp)) ?_)
            | refine vc_e (e_sts (vs := [_, _, _, _, _, _, _, _]) st 7 rfl rfl rfl rfl rfl Tryd.sizeOf112 rfl rfl (by first | (right; assumption) | (left; simp)) ?_)
            | refine vc_e (e_sts (vs := [_, _, _, _, _, _, _, _]) st 8 rfl rfl rfl rfl rfl Tryd.sizeOf112 rfl rfl (by first | (right; assumption) | (left; simp)) ?_)
            intro w st; dsimp only [setNth, wr] at st
            refine vc_end ?_
            refine vq_then ?_
            refine vc_keep [(0, _), (1, _), (4, _), (5, _), (6, _), (7, _), (8, _), (9, _), (10, _)] ⟨rfl, rfl, rfl, rfl, rfl, rfl, rfl, rfl, rfl, trivial⟩ ?_
            refine vc_seq ?_
            refine vc_region ?_
            refine vc_y rfl rfl (y_mv rfl) ?_
            refine vc_y rfl rfl (y_mv rfl) ?_
            refine vc_y rfl rfl (y_lensl rfl Tryd.underlying107) ?_
            refine vc_y rfl rfl (y_sub rfl rfl (by simp : _ = (W2.length : Int)) (by omega) (by omega)) ?_
            refine vc_y rfl rfl (y_slh (j := W2.length) rfl rfl Tryd.underlying107 Tryd.sizeOf112 rfl (by show W2.length ≤ zcW; simp at hcap; omega)) ?_
            refine vc_y rfl rfl (y_as rfl) ?_
            refine vc_end ?_
            refine vq_then ?_
            refine vc_keep [(0, _), (1, _), (4, _), (5, _), (6, _), (7, _), (8, _), (9, _), (10, _)] ⟨rfl, rfl, rfl, rfl, rfl, rfl, rfl, rfl, rfl, trivial⟩ ?_
            refine vc_region ?_
            replace st := (st.pick [2, 0, 1, 3, 4, 5, 6, 7, 8] rfl (by decide)).shrink (m := W2.length) (by simp) hxl
            refine vc_y rfl rfl (y_fa0 rfl Tryd.underlying112 rfl rfl Tryd.sizeOf23 rfl) ?_
            refine vc_y rfl rfl ((by first | exact y_ld st 0 rfl Tryd.isAgg23 rfl rfl | exact y_ld st 1 rfl Tryd.isAgg23 rfl rfl | exact y_ld st 2 rfl Tryd.isAgg23 rfl rfl | exact y_ld st 3 rfl Tryd.isAgg23 rfl rfl | exact y_ld st 4 rfl Tryd.isAgg23 rfl rfl | exact y_ld st 5 rfl Tryd.isAgg23 rfl rfl | exact y_ld st 6 rfl Tryd.isAgg23 rfl rfl | exact y_ld st 7 rfl Tryd.isAgg23 rfl rfl | exact y_ld st 8 rfl Tryd.isAgg23 rfl rfl)) ?_
            refine vc_y rfl rfl ((by first | exact y_faz (k := 2) rfl Tryd.underlying112 rfl rfl Tryd.sizeOf26 rfl | exact y_fa (k := 2) rfl Tryd.underlying112 rfl rfl Tryd.sizeOf26 rfl)) ?_
            refine vc_y rfl rfl ((by first | exact y_lda (vs := [_, _, _, _, _, _]) st 0 rfl Tryd.isAgg26 Tryd.sizeOf26 rfl rfl | exact y_lda (vs := [_, _, _, _, _, _]) st 1 rfl Tryd.isAgg26 Tryd.sizeOf26 rfl rfl | exact y_lda (vs := [_, _, _, _, _, _]) st 2 rfl Tryd.isAgg26 Tryd.sizeOf26 rfl rfl | exact y_lda (vs := [_, _, _, _, _, _]) st 3 rfl Tryd.isAgg26 Tryd.sizeOf26 rfl rfl | exact y_lda (vs := [_, _, _, _, _, _]) st 4 rfl Tryd.isAgg26 Tryd.sizeOf26 rfl rfl | exact y_lda (vs := [_, _, _, _, _, _]) st 5 rfl Tryd.isAgg26 Tryd.sizeOf26 rfl rfl | exact y_lda (vs := [_, _, _, _, _, _]) st 6 rfl Tryd.isAgg26 Tryd.sizeOf26 rfl rfl | exact y_lda (vs := [_, _, _, _, _, _]) st 7 rfl Tryd.isAgg26 Tryd.sizeOf26 rfl rfl | exact y_lda (vs := [_, _, _, _, _, _]) st 8 rfl Tryd.isAgg26 Tryd.sizeOf26 rfl rfl)) ?_
            refine vc_y rfl rfl ((by first | exact y_lda (vs := [_, _, _, _, _, _]) st 0 rfl Tryd.isAgg26 Tryd.sizeOf26 rfl rfl | exact y_lda (vs := [_, _, _, _, _, _]) st 1 rfl Tryd.isAgg26 Tryd.sizeOf26 rfl rfl | exact y_lda (vs := [_, _, _, _, _, _]) st 2 rfl Tryd.isAgg26 Tryd.sizeOf26 rfl rfl | exact y_lda (vs := [_, _, _, _, _, _]) st 3 rfl Tryd.isAgg26 Tryd.sizeOf26 rfl rfl | exact y_lda (vs := [_, _, _, _, _, _]) st 4 rfl Tryd.isAgg26 Tryd.sizeOf26 rfl rfl | exact y_lda (vs := [_, _, _, _, _, _]) st 5 rfl Tryd.isAgg26 Tryd.sizeOf26 rfl rfl | exact y_lda (vs := [_, _, _, _, _, _]) st 6 rfl Tryd.isAgg26 Tryd.sizeOf26 rfl rfl | exact y_lda (vs := [_, _, _, _, _, _]) st 7 rfl Tryd.isAgg26 Tryd.sizeOf26 rfl rfl | exact y_lda (vs := [_, _, _, _, _, _]) st 8 rfl Tryd.isAgg26 Tryd.sizeOf26 rfl rfl)) ?_
            refine vc_e (e_bsn (l := exC pl ol cl ++ exC zx zox zcx) (E := 26) st [(0, _), (1, _)] rfl rfl rfl (fun w => by simp [Instr.buildSlice, run_underlying Tryd.underlying24, Tryd.sizeOf26, Tryd.zeroValue26, Instr.fill, newRow, newObj, Sem.run, go_sem, Value.cells]) ?_)
            intro b64 w hb64 st
            refine vc_y rfl rfl ((by first | exact y_faz (k := 1) rfl Tryd.underlying112 rfl rfl Tryd.sizeOf3 rfl | exact y_fa (k := 1) rfl Tryd.underlying112 rfl rfl Tryd.sizeOf3 rfl)) ?_
            refine vc_y rfl rfl ((by first | exact y_ld st 0 rfl Tryd.isAgg3 rfl rfl | exact y_ld st 1 rfl Tryd.isAgg3 rfl rfl | exact y_ld st 2 rfl Tryd.isAgg3 rfl rfl | exact y_ld st 3 rfl Tryd.isAgg3 rfl rfl | exact y_ld st 4 rfl Tryd.isAgg3 rfl rfl | exact y_ld st 5 rfl Tryd.isAgg3 rfl rfl | exact y_ld st 6 rfl Tryd.isAgg3 rfl rfl | exact y_ld st 7 rfl Tryd.isAgg3 rfl rfl | exact y_ld st 8 rfl Tryd.isAgg3 rfl rfl)) ?_
            refine vc_y rfl rfl (y_bld (.agg #[_, _, _, _, _, _]) [(0, _), (1, _), (4, _), (5, _)] rfl (fun w => by simp [Instr.build, go_sem] <;> repeat' constructor)) ?_
            first
            | refine vc_e (e_sts (vs := [_, _, _, _, _, _]) st 0 rfl rfl rfl rfl rfl Tryd.sizeOf26 rfl rfl (by first | (right; assumption) | (left; simp)) ?_)
            | refine vc_e (e_sts (vs := [_, _, _, _, _, _]) st 1 rfl rfl rfl rfl rfl Tryd.sizeOf26 rfl rfl (by first | (right; assumption) | (left; simp)) ?_)
            | refine vc_e (e_sts (vs := [_, _, _, _, _, _]) st 2 rfl rfl rfl rfl rfl Tryd.sizeOf26 rfl rfl (by first | (right; assumption) | (left; simp)) ?_)
            | refine vc_e (e_sts (vs := [_, _, _, _, _, _]) st 3 rfl rfl rfl rfl rfl Tryd.sizeOf26 rfl rfl (by first | (right; assumption) | (left; simp)) ?_)
            | refine vc_e (e_sts (vs := [_, _, _, _, _, _]) st 4 rfl rfl rfl rfl rfl Tryd.sizeOf26 rfl rfl (by first | (right; assumption) | (left; simp)) ?_)
            | refine vc_e (e_sts (vs := [_, _, _, _, _, _]) st 5 rfl rfl rfl rfl rfl Tryd.sizeOf26 rfl rfl (by first | (right; assumption) | (left; simp)) ?_)
            | refine vc_e (e_sts (vs := [_, _, _, _, _, _]) st 6 rfl rfl rfl rfl rfl Tryd.sizeOf26 rfl rfl (by first | (right; assumption) | (left; simp)) ?_)
            | refine vc_e (e_sts (vs := [_, _, _, _, _, _]) st 7 rfl rfl rfl rfl rfl Tryd.sizeOf26 rfl rfl (by first | (right; assumption) | (left; simp)) ?_)
            | refine vc_e (e_sts (vs := [_, _, _, _, _, _]) st 8 rfl rfl rfl rfl rfl Tryd.sizeOf26 rfl rfl (by first | (right; assumption) | (left; simp)) ?_)
            intro w st; dsimp only [setNth, wr] at st
            refine vc_end ?_
            refine vq_block ?_
            refine vq_again ⟨W2, binE po pa pl zx, zr, zn, some ⟨gb, 0, none⟩, zcW, xr, Sr, some ⟨b64, 0, none⟩, 2, b64 :: (Sl ++ zSx)⟩  ⟨rfl, rfl, rfl, rfl, rfl, rfl, rfl, rfl, trivial⟩ (by
              have hE := ex_two (st.res (i := 0) rfl) (st.res (i := 5) rfl).1 (st.res (i := 7) rfl).1
              exact (((st.pick [0, 5, 7, 3, 1, 4, 6, 8, 9] rfl (by decide)).joinN 3 (q := .tree (b64 :: (Sl ++ zSx)) fun w => ExR 26 w (some ⟨b64, 0, none⟩) 2 [pl, zx] (b64 :: (Sl ++ zSx))) (fun k hk => by
                rcases List.mem_cons.1 hk with rfl | hk
                · exact ⟨_, .head _, .head _⟩
                · rcases List.mem_append.1 hk with h | h
                  · exact ⟨_, .tail _ (.head _), h⟩
                  · exact ⟨_, .tail _ (.tail _ (.head _)), h⟩) (holds_ex hE))).pick [1, 2, 3, 4, 0, 5, 6] rfl (by decide)) ?_ ?_
            · have hrd : redu (!isop) (lvlO (((findO (here r1).text).getD 0 : Nat) : Int)) ((po, pa, pl) :: W2) zx = redu (!isop) (lvlO (((findO (here r1).text).getD 0 : Nat) : Int)) W2 (binE po pa pl zx) := by
                simp only [redu]
                rw [if_pos (.inr hc47)]
              refine ⟨by simp at hzl; dsimp only; omega, hzSW.left, ?_, hzr.trans hrd⟩
              refine Nw.app (S := [b64]) ⟨by simp, by simpa using hb64⟩ (hzSW.right.app hzSx (st.ne (i := 5) (j := 7) (by decide) rfl rfl)) (fun b hb hb' => ?_)
              rcases List.mem_append.1 hb' with h | h
              · exact st.ne (i := 0) (j := 5) (by decide) rfl rfl b hb h
              · exact st.ne (i := 0) (j := 7) (by decide) rfl rfl b hb h
            · simp
          · intro hc47
            try simp only [decide_eq_true_eq, decide_eq_false_iff_not, Bool.not_eq_true', Bool.not_eq_false', Bool.not_eq_true, Bool.not_eq_false, Int.not_lt, Int.not_le, Nat.not_lt, Nat.not_le, Bool.not_true, Bool.not_false, Bool.true_eq_false, Bool.false_eq_true] at hc47
            refine vc_exit ?_
            refine vq_then_exit ?_
            refine vq_then_exit ?_
            refine vq_block_exit ?_
            refine vq_meet ⟨(po, pa, pl) :: W2, zx, zr, zn, some ⟨gb, 0, none⟩, zcW, xr ++ pdC (po, pa, pl) ol cl, zSW, zox, zcx, zSx⟩ ⟨rfl, rfl, rfl, rfl, rfl, rfl, rfl, rfl, trivial⟩ st ?_
            · exact ⟨hzl, hzSW, hzSx, hzr.trans (by simp only [redu]; rw [if_neg (by rw [hg34]; simp; omega)]), fun h => by rw [h] at hg34; cases hg34⟩
      · intro hg31
        try simp only [decide_eq_true_eq, decide_eq_false_iff_not, Bool.not_eq_true', Bool.not_eq_false', Bool.not_eq_true, Bool.not_eq_false, Int.not_lt, Int.not_le, Nat.not_lt, Nat.not_le, Bool.not_true, Bool.not_false, Bool.true_eq_false, Bool.false_eq_true] at hg31
        refine vc_e (e_skip rfl rfl ?_)
        refine vc_e (e_skip rfl rfl ?_)
        refine vc_e (e_skip rfl rfl ?_)
        refine vc_e (e_skip rfl rfl ?_)
        refine vc_e (e_skip rfl rfl ?_)
        refine vc_e (e_skip rfl rfl ?_)
        refine vc_e (e_skip rfl rfl ?_)
        refine vc_e (e_skip rfl rfl ?_)
        refine vc_e (e_skip rfl rfl ?_)
        refine vc_e (e_skip rfl rfl ?_)
        refine vc_e (e_skip rfl rfl ?_)
        refine vc_e (e_skip rfl rfl ?_)
        refine vc_e (e_skip rfl rfl ?_)
        refine vc_e (e_skip rfl rfl ?_)
        refine vc_e (e_skip rfl rfl ?_)
        refine vc_y rfl rfl (y_pickf rfl rfl) ?_
        refine vc_end ?_
        refine vq_then ?_
        refine vc_keep [(0, _), (1, _), (4, _), (5, _), (6, _), (7, _), (8, _), (9, _), (47, _)] ⟨rfl, rfl, rfl, rfl, rfl, rfl, rfl, rfl, rfl, trivial⟩ ?_
        refine vc_iff rfl ?_
        refine vc_exit ?_
        refine vq_then_exit ?_
        refine vq_then_exit ?_
        refine vq_block_exit ?_
        refine vq_meet ⟨zW, zx, zr, zn, zow, zcW, zxs, zSW, zox, zcx, zSx⟩ ⟨rfl, rfl, rfl, rfl, rfl, rfl, rfl, rfl, trivial⟩ st ?_
        · obtain rfl : zW = [] := List.eq_nil_of_length_eq_zero (by omega)
          exact ⟨hzl, hzSW, hzSx, hzr, fun _ => rfl⟩
    ·
      clear st
      rintro ⟨zW, zx, zr, zn, zow, zcW, zxs, zSW, zox, zcx, zSx⟩ w ⟨hzl, hzSW, hzSx, hzr, hz0⟩ st
      dsimp only at hzl hzSW hzSx hzr hz0 st
      refine vc_seq ?_
      refine vc_seq ?_
      refine vc_region ?_
      refine vc_y rfl rfl (y_mv rfl) ?_
      refine vc_y rfl rfl (y_not rfl) ?_
      refine vc_end ?_
      refine vq_then ?_
      refine vc_keep [(0, _), (1, _), (4, _), (5, _), (6, _), (7, _), (8, _), (69, _)] ⟨rfl, rfl, rfl, rfl, rfl, rfl, rfl, rfl, trivial⟩ ?_
      refine vc_ifs rfl ?_ ?_
      · intro hc69
        try simp only [decide_eq_true_eq, decide_eq_false_iff_not, Bool.not_eq_true', Bool.not_eq_false', Bool.not_eq_true, Bool.not_eq_false, Int.not_lt, Int.not_le, Nat.not_lt, Nat.not_le, Bool.not_true, Bool.not_false, Bool.true_eq_false, Bool.false_eq_true] at hc69
        have hif : isop = false := by simpa using hc69
        have hno : opT (here r1) = none := by
          rw [hif] at hop
          cases hq : opT (here r1) with
          | none => rfl
          | some o => rw [hq] at hop; cases hop
        obtain rfl := hz0 hif
        rw [hif] at hzr
        simp only [Bool.not_false] at hzr
        replace hs := hs.trans (contE_stop hno hzr)
        refine vc_seq ?_
        refine vc_region ?_
        refine vc_y rfl rfl ((by first | exact y_lda (vs := [_, _, _, _, _, _]) st 0 rfl Tryd.isAgg26 Tryd.sizeOf26 rfl rfl | exact y_lda (vs := [_, _, _, _, _, _]) st 1 rfl Tryd.isAgg26 Tryd.sizeOf26 rfl rfl | exact y_lda (vs := [_, _, _, _, _, _]) st 2 rfl Tryd.isAgg26 Tryd.sizeOf26 rfl rfl | exact y_lda (vs := [_, _, _, _, _, _]) st 3 rfl Tryd.isAgg26 Tryd.sizeOf26 rfl rfl | exact y_lda (vs := [_, _, _, _, _, _]) st 4 rfl Tryd.isAgg26 Tryd.sizeOf26 rfl rfl | exact y_lda (vs := [_, _, _, _, _, _]) st 5 rfl Tryd.isAgg26 Tryd.sizeOf26 rfl rfl | exact y_lda (vs := [_, _, _, _, _, _]) st 6 rfl Tryd.isAgg26 Tryd.sizeOf26 rfl rfl | exact y_lda (vs := [_, _, _, _, _, _]) st 7 rfl Tryd.isAgg26 Tryd.sizeOf26 rfl rfl | exact y_lda (vs := [_, _, _, _, _, _]) st 8 rfl Tryd.isAgg26 Tryd.sizeOf26 rfl rfl)) ?_
        first
        | refine vc_e (e_sts (vs := [_, _, _, _, _, _]) st 0 rfl rfl rfl rfl rfl Tryd.sizeOf26 rfl rfl (by first | (right; assumption) | (left; simp)) ?_)
        | refine vc_e (e_sts (vs := [_, _, _, _, _, _]) st 1 rfl rfl rfl rfl rfl Tryd.sizeOf26 rfl rfl (by first | (right; assumption) | (left; simp)) ?_)
        | refine vc_e (e_sts (vs := [_, _, _, _, _, _]) st 2 rfl rfl rfl rfl rfl Tryd.sizeOf26 rfl rfl (by first | (right; assumption) | (left; simp)) ?_)
        | refine vc_e (e_sts (vs := [_, _, _, _, _, _]) st 3 rfl rfl rfl rfl rfl Tryd.sizeOf26 rfl rfl (by first | (right; assumption) | (left; simp)) ?_)
        | refine vc_e (e_sts (vs := [_, _, _, _, _, _]) st 4 rfl rfl rfl rfl rfl Tryd.sizeOf26 rfl rfl (by first | (right; assumption) | (left; simp)) ?_)
        | refine vc_e (e_sts (vs := [_, _, _, _, _, _]) st 5 rfl rfl rfl rfl rfl Tryd.sizeOf26 rfl rfl (by first | (right; assumption) | (left; simp)) ?_)
        | refine vc_e (e_sts (vs := [_, _, _, _, _, _]) st 6 rfl rfl rfl rfl rfl Tryd.sizeOf26 rfl rfl (by first | (right; assumption) | (left; simp)) ?_)
        | refine vc_e (e_sts (vs := [_, _, _, _, _, _]) st 7 rfl rfl rfl rfl rfl Tryd.sizeOf26 rfl rfl (by first | (right; assumption) | (left; simp)) ?_)
        | refine vc_e (e_sts (vs := [_, _, _, _, _, _]) st 8 rfl rfl rfl rfl rfl Tryd.sizeOf26 rfl rfl (by first | (right; assumption) | (left; simp)) ?_)
        intro w st; dsimp only [setNth, wr] at st
        refine vc_end ?_
        refine vq_then ?_
        refine vc_keep [(4, _)] ⟨rfl, trivial⟩ ?_
        refine vc_ret ?_
        refine vq_then_ret ?_
        refine vq_block_ret ?_
        refine vq_then_ret ?_
        refine vq_block_ret ?_
        refine vq_ret1 st (.inl rfl) Tryd.results29 (by first | exact .cell 0 rfl rfl Tryd.isAgg26 Tryd.sizeOf26 | exact .cell 1 rfl rfl Tryd.isAgg26 Tryd.sizeOf26 | exact .cell 2 rfl rfl Tryd.isAgg26 Tryd.sizeOf26 | exact .cell 3 rfl rfl Tryd.isAgg26 Tryd.sizeOf26 | exact .cell 4 rfl rfl Tryd.isAgg26 Tryd.sizeOf26 | exact .cell 5 rfl rfl Tryd.isAgg26 Tryd.sizeOf26 | exact .cell 6 rfl rfl Tryd.isAgg26 Tryd.sizeOf26 | exact .cell 7 rfl rfl Tryd.isAgg26 Tryd.sizeOf26 | exact .cell 8 rfl rfl Tryd.isAgg26 Tryd.sizeOf26) ?_
        refine .inl ⟨_, rfl, ?_⟩
        exact ⟨zx, r1, hs, hsf1, hlt1, (by first | exact st.res (i := 0) rfl | exact st.res (i := 1) rfl | exact st.res (i := 2) rfl | exact st.res (i := 3) rfl | exact st.res (i := 4) rfl | exact st.res (i := 5) rfl | exact st.res (i := 6) rfl | exact st.res (i := 7) rfl | exact st.res (i := 8) rfl | exact st.res (i := 9) rfl), st.chg, zox, zcx, zSx, rfl, (st.res (i := 4) rfl).1, hzSx⟩
      · intro hc69
        try simp only [decide_eq_true_eq, decide_eq_false_iff_not, Bool.not_eq_true', Bool.not_eq_false', Bool.not_eq_true, Bool.not_eq_false, Int.not_lt, Int.not_le, Nat.not_lt, Nat.not_le, Bool.not_true, Bool.not_false, Bool.true_eq_false, Bool.false_eq_true] at hc69
        have hit : isop = true := by simpa using hc69
        obtain ⟨op, hop1⟩ : ∃ op, opT (here r1) = some op := by
          rw [hit] at hop
          cases hq : opT (here r1) with
          | none => rw [hq] at hop; cases hop
          | some o => exact ⟨o, rfl⟩
        have hfo : findO (here r1).text = some op := by
          unfold opT at hop1; split at hop1
          · exact hop1
          · cases hop1
        rw [hit, hfo] at hzr
        simp only [Bool.not_true, Option.getD_some] at hzr
        replace hs := hs.trans (contE_step hop1 hzr)
        have hne1 := opT_ne hop1
        have htl1 := tail_lt hne1
        refine vc_code_skip ?_
        refine vq_then ?_
        refine vc_keep [(0, _), (1, _), (4, _), (5, _), (6, _), (7, _), (8, _)] ⟨rfl, rfl, rfl, rfl, rfl, rfl, rfl, trivial⟩ ?_
        refine vc_seq ?_
        refine vc_region ?_
        refine vc_y rfl rfl (y_mv rfl) ?_
        refine vc_e (e_call [_] rfl rfl Tryd.call60 rfl (pnext_any c r1 hr1 hne1 _ (hC.k1 st.chg) (by first | exact st.res (i := 0) rfl | exact st.res (i := 1) rfl | exact st.res (i := 2) rfl | exact st.res (i := 3) rfl | exact st.res (i := 4) rfl | exact st.res (i := 5) rfl | exact st.res (i := 6) rfl | exact st.res (i := 7) rfl | exact st.res (i := 8) rfl | exact st.res (i := 9) rfl)) ?_)
        rintro _ w ⟨rfl, hP1, cw⟩
        first
        | replace st := St.prs (b := c.pb) st 0 rfl cw (.inl (.head _)) hP1
        | replace st := St.prs (b := c.pb) st 1 rfl cw (.inl (.head _)) hP1
        | replace st := St.prs (b := c.pb) st 2 rfl cw (.inl (.head _)) hP1
        | replace st := St.prs (b := c.pb) st 3 rfl cw (.inl (.head _)) hP1
        | replace st := St.prs (b := c.pb) st 4 rfl cw (.inl (.head _)) hP1
        | replace st := St.prs (b := c.pb) st 5 rfl cw (.inl (.head _)) hP1
        | replace st := St.prs (b := c.pb) st 6 rfl cw (.inl (.head _)) hP1
        | replace st := St.prs (b := c.pb) st 7 rfl cw (.inl (.head _)) hP1
        | replace st := St.prs (b := c.pb) st 8 rfl cw (.inl (.head _)) hP1
        | replace st := St.prs (b := c.pb) st 9 rfl cw (.inl (.head _)) hP1
        dsimp only [setNth] at st
        refine vc_end ?_
        refine vq_then ?_
        refine vc_keep [(0, _), (1, _), (4, _), (5, _), (6, _), (7, _), (8, _)] ⟨rfl, rfl, rfl, rfl, rfl, rfl, rfl, trivial⟩ ?_
        refine vc_seq ?_
        refine vc_region ?_
        refine vc_y rfl rfl (y_mv rfl) ?_
        refine vc_y rfl rfl (y_mv rfl) ?_
        refine vc_y rfl rfl ((by first | exact y_faz (k := 3) rfl Tryd.underlying53 rfl rfl Tryd.sizeOf3 rfl | exact y_fa (k := 3) rfl Tryd.underlying53 rfl rfl Tryd.sizeOf3 rfl)) ?_
        refine vc_y rfl rfl ((by first | exact y_ld st 0 rfl Tryd.isAgg3 rfl rfl | exact y_ld st 1 rfl Tryd.isAgg3 rfl rfl | exact y_ld st 2 rfl Tryd.isAgg3 rfl rfl | exact y_ld st 3 rfl Tryd.isAgg3 rfl rfl | exact y_ld st 4 rfl Tryd.isAgg3 rfl rfl | exact y_ld st 5 rfl Tryd.isAgg3 rfl rfl | exact y_ld st 6 rfl Tryd.isAgg3 rfl rfl | exact y_ld st 7 rfl Tryd.isAgg3 rfl rfl | exact y_ld st 8 rfl Tryd.isAgg3 rfl rfl)) ?_
        refine vc_y rfl rfl ((by first | exact y_lda (vs := [_, _, _, _, _, _]) st 0 rfl Tryd.isAgg26 Tryd.sizeOf26 rfl rfl | exact y_lda (vs := [_, _, _, _, _, _]) st 1 rfl Tryd.isAgg26 Tryd.sizeOf26 rfl rfl | exact y_lda (vs := [_, _, _, _, _, _]) st 2 rfl Tryd.isAgg26 Tryd.sizeOf26 rfl rfl | exact y_lda (vs := [_, _, _, _, _, _]) st 3 rfl Tryd.isAgg26 Tryd.sizeOf26 rfl rfl | exact y_lda (vs := [_, _, _, _, _, _]) st 4 rfl Tryd.isAgg26 Tryd.sizeOf26 rfl rfl | exact y_lda (vs := [_, _, _, _, _, _]) st 5 rfl Tryd.isAgg26 Tryd.sizeOf26 rfl rfl | exact y_lda (vs := [_, _, _, _, _, _]) st 6 rfl Tryd.isAgg26 Tryd.sizeOf26 rfl rfl | exact y_lda (vs := [_, _, _, _, _, _]) st 7 rfl Tryd.isAgg26 Tryd.sizeOf26 rfl rfl | exact y_lda (vs := [_, _, _, _, _, _]) st 8 rfl Tryd.isAgg26 Tryd.sizeOf26 rfl rfl)) ?_
        refine vc_y rfl rfl (y_bld (.agg #[_, _, _, _, _, _, _, _]) [(0, _), (1, _), (2, _)] rfl (fun w => by simp [Instr.build, go_sem] <;> repeat' constructor)) ?_
        refine vc_e (e_bs1 (l := [_, _, _, _, _, _, _, _]) st rfl rfl rfl rfl Tryd.underlying107 Tryd.sizeOf112 rfl rfl rfl Tryd.zeroValue112 ?_)
        intro b79 w hb79 st
        refine vc_e (e_app (bytes := 80) st 2 0 rfl rfl rfl rfl rfl rfl Tryd.underlying107 Tryd.info112 rfl rfl rfl rfl rfl (by simp) rfl rfl (by unfold maxLen; omega) (by omega) ?_)
        intro oaQ capQ w st; dsimp only [setNth] at st
        refine vc_y rfl rfl (y_as rfl) ?_
        refine vc_end ?_
        refine vq_then ?_
        refine vc_keep [(0, _), (1, _), (4, _), (5, _), (6, _)] ⟨rfl, rfl, rfl, rfl, rfl, trivial⟩ ?_
        refine vc_region ?_
        rw [hfo] at st
        dsimp only [Option.getD_some] at st
        have hT' : PdSs 26 w ((op, (here r1).at_, zx) :: zW) (zxs ++ pdC (op, (here r1).at_, zx) zox zcx) (zSW ++ zSx) := ⟨zox, zcx, zSx, zxs, zSW, rfl, rfl, (st.res (i := 5) rfl).1, (st.res (i := 3) rfl).1⟩
        have hSW' := hzSW.app hzSx (st.ne (i := 3) (j := 5) (by decide) rfl rfl)
        replace st := ((st.pick [3, 5, 2, 4, 6, 7] rfl (by decide)).join (q := .tree (zSW ++ zSx) (fun w => PdSs 26 w ((op, (here r1).at_, zx) :: zW) (zxs ++ pdC (op, (here r1).at_, zx) zox zcx) (zSW ++ zSx))) (fun k hk => List.mem_append.1 hk) (holds_pd hT'))
        refine vc_y rfl rfl (y_mv rfl) ?_
        refine vc_y rfl rfl (y_mv rfl) ?_
        refine vc_e (e_callp [_, _] rfl rfl Tryd.call57 rfl (hU r1.tail (suf_tail hr1) _ (hC.k1 st.chg) (by first | exact st.res (i := 0) rfl | exact st.res (i := 1) rfl | exact st.res (i := 2) rfl | exact st.res (i := 3) rfl | exact st.res (i := 4) rfl | exact st.res (i := 5) rfl | exact st.res (i := 6) rfl | exact st.res (i := 7) rfl | exact st.res (i := 8) rfl | exact st.res (i := 9) rfl)) (by rintro _ w' ⟨f, hf, rfl, ch⟩ a ha; exact And.intro ha (Or.inr ⟨_, rfl, f, by rw [hs, hf], rfl, st.chg.trans ch⟩)) ?_)
        rintro _ w ⟨x2, r2, hx, hsfr2, hlnr2, hP1, cw, oy, cy, Sy, rfl, hQ, hN⟩
        have hNSy := hN.le st.chg.size
        first
        | replace st := St.prsT (b := c.pb) st 0 rfl cw (.inl (.head _)) hP1 (holds_ex hQ) hN.2
        | replace st := St.prsT (b := c.pb) st 1 rfl cw (.inl (.head _)) hP1 (holds_ex hQ) hN.2
        | replace st := St.prsT (b := c.pb) st 2 rfl cw (.inl (.head _)) hP1 (holds_ex hQ) hN.2
        | replace st := St.prsT (b := c.pb) st 3 rfl cw (.inl (.head _)) hP1 (holds_ex hQ) hN.2
        | replace st := St.prsT (b := c.pb) st 4 rfl cw (.inl (.head _)) hP1 (holds_ex hQ) hN.2
        | replace st := St.prsT (b := c.pb) st 5 rfl cw (.inl (.head _)) hP1 (holds_ex hQ) hN.2
        | replace st := St.prsT (b := c.pb) st 6 rfl cw (.inl (.head _)) hP1 (holds_ex hQ) hN.2
        | replace st := St.prsT (b := c.pb) st 7 rfl cw (.inl (.head _)) hP1 (holds_ex hQ) hN.2
        | replace st := St.prsT (b := c.pb) st 8 rfl cw (.inl (.head _)) hP1 (holds_ex hQ) hN.2
        | replace st := St.prsT (b := c.pb) st 9 rfl cw (.inl (.head _)) hP1 (holds_ex hQ) hN.2
        dsimp only [setNth] at st
        rw [hx] at hs; dsimp only at hs
        first
        | refine vc_e (e_sts (vs := [_, _, _, _, _, _]) st 0 rfl rfl rfl rfl rfl Tryd.sizeOf26 rfl rfl (by first | (right; assumption) | (left; simp)) ?_)
        | refine vc_e (e_sts (vs := [_, _, _, _, _, _]) st 1 rfl rfl rfl rfl rfl Tryd.sizeOf26 rfl rfl (by first | (right; assumption) | (left; simp)) ?_)
        | refine vc_e (e_sts (vs := [_, _, _, _, _, _]) st 2 rfl rfl rfl rfl rfl Tryd.sizeOf26 rfl rfl (by first | (right; assumption) | (left; simp)) ?_)
        | refine vc_e (e_sts (vs := [_, _, _, _, _, _]) st 3 rfl rfl rfl rfl rfl Tryd.sizeOf26 rfl rfl (by first | (right; assumption) | (left; simp)) ?_)
        | refine vc_e (e_sts (vs := [_, _, _, _, _, _]) st 4 rfl rfl rfl rfl rfl Tryd.sizeOf26 rfl rfl (by first | (right; assumption) | (left; simp)) ?_)
        | refine vc_e (e_sts (vs := [_, _, _, _, _, _]) st 5 rfl rfl rfl rfl rfl Tryd.sizeOf26 rfl rfl (by first | (right; assumption) | (left; simp)) ?_)
        | refine vc_e (e_sts (vs := [_, _, _, _, _, _]) st 6 rfl rfl rfl rfl rfl Tryd.sizeOf26 rfl rfl (by first | (right; assumption) | (left; simp)) ?_)
        | refine vc_e (e_sts (vs := [_, _, _, _, _, _]) st 7 rfl rfl rfl rfl rfl Tryd.sizeOf26 rfl rfl (by first | (right; assumption) | (left; simp)) ?_)
        | refine vc_e (e_sts (vs := [_, _, _, _, _, _]) st 8 rfl rfl rfl rfl rfl Tryd.sizeOf26 rfl rfl (by first | (right; assumption) | (left; simp)) ?_)
        intro w st; dsimp only [setNth, wr] at st
        refine vc_end ?_
        refine vq_block ?_
        refine vq_again ⟨(op, (here r1).at_, zx) :: zW, x2, r2, n, oaQ, capQ, zxs ++ pdC (op, (here r1).at_, zx) zox zcx, zSW ++ zSx, oy, cy, Sy⟩  ⟨rfl, rfl, rfl, rfl, rfl, trivial⟩ (st.pick [2, 1, 3, 0, 4, 5] rfl (by decide)) ?_ ?_
        · exact ⟨(hsfr2.trans (List.tail_suffix _)).trans hsf1, by dsimp only; omega, by simp only [List.length_cons]; omega, by dsimp only; omega, hSW', hNSy, hs⟩
        · dsimp only; omega

end Go.Proofs.YtggnfanphcaamaaDoor

