/- A part of the proof: contracts of functions and plain laws; each theorem says its own conditions. -/
import Derived.Test.YtggnfanphcaamaaGreatDoorParseOwnK1
import Derived.Test.YtggnfanphcaamaaGreatDoorParseOwnK3
import Derived.Test.YtggnfanphcaamaaGreatDoorParseOwnK2
set_option linter.unusedVariables false
set_option linter.unusedSimpArgs false
namespace Go.Proofs.YtggnfanphcaamaaGreatDoor
open Go.RowKit Sx LexS ParS _root_.Go.Proofs.Tryz
theorem Tryz.info124 : Tryz.prog.info? 124 = some Tryz.t124 := by kernel_rfl
theorem Tryz.info60 : Tryz.prog.info? 60 = some Tryz.t60 := by kernel_rfl
/-- an expression's value, and the new memory that it hangs on -/
def HE (w : World) (x : Ex) (v : Value) (w' : World) : Prop := ∃ oq cq Sq, v = .agg (exC x oq cq).toArray ∧ ExR 60 w' oq cq x.kids Sq ∧ Nw w.heap.size Sq
/-- a reader of expressions that lie so deep -/
def DRead (fo : FuncId) (c : PCtx) (d : Nat) (F : List Tok → PR Ex) : Prop := ∀ (r : List Tok) (hr : r <:+ c.ts) (w : World) (hC : PCok c w) (hP : PAt c r w), RetP Tryz.prog fo [.pointer (some ⟨c.pb, 0, none⟩), .int .i64 (d : Int)] w
    (PRes c r (F r) [c.pb] w (HE w)) (PErr c (F r) [c.pb] w)
abbrev ex00 : List Value := [.int .u8 0, .int .u8 0, .int .i64 0, str [], .slice none 0 0, .int .i64 0]

set_option maxHeartbeats 1000000 in
theorem pexpr_of (c : PCtx) (hR : c.R = 40) (hg : c.g = 1) (d m : Nat) (hU : DRead 100 c d (unaryP c.e m)) : DRead 92 c d (exprW (unaryP c.e m)) := by
 intro r hr w hC hP
 refine retp_of [_, _] func92 rfl ntmps92 rfl ?_
 obtain ⟨w0, rfl⟩ : ∃ w0, w0 = w := ⟨_, rfl⟩
 have hP' := hP
 dsimp only [PAt, pcell] at hP
 have st := St.of1 [c.pb] hP
 have h20 := hC.len
 have hl := suf_len hr
 have hs := exprW_cont (unaryP c.e m) r
 replace st := St.pushR (r := .tree [] (fun w => PdSs 60 w [] [] [])) st (Chg.refl _ _) (holds_pd ⟨rfl, rfl⟩) (by simp [Res.at?])
 replace st := st.ownNil 124 8
 refine sr ?_
 refine vc_e (e_al (l := [_, _, _, _, _, _]) st rfl rfl zeroValue60 rfl ?_)
 intro b4 w hb4 st
 refine et (vk3 0 1 4 (sr ?_))
 refine ya ?_
 refine et (vk4 0 1 4 5 (sr ?_))
 iterate 2 refine ym ?_
 refine vc_e (e_callp [_, _] rfl rfl call100 rfl (hU r hr _ (hC.k1 st.chg) (by exact st.res (i := 3) rfl)) (by rintro _ w' ⟨f, hf, rfl, ch⟩ a ha; exact And.intro ha (Or.inr ⟨_, rfl, f, by rw [hs, hf], rfl, st.chg.trans ch⟩)) ?_)
 rintro _ w ⟨x0, r0, hx, hsfr0, hlnr0, hP1, cw, ox0, cx0, Sx0, rfl, hQ, hN⟩
 have hNSx0 := hN.le st.chg.size
 replace st := St.prsT (b := c.pb) st 3 rfl cw (.inl (.head _)) hP1 (holds_ex hQ) hN.2
 dsimp only [setNth] at st
 rw [hx] at hs; dsimp only at hs
 refine vc_e (e_al (l := [_, _, _, _, _, _]) st rfl rfl zeroValue60 rfl ?_)
 intro b6 w hb6 st
 refine vc_e (e_sts (vs := [_, _, _, _, _, _]) st 0 rfl rfl rfl rfl rfl sizeOf60 rfl rfl (by (right; assumption)) ?_)
 intro w st; dsimp only [setNth, wr] at st
 refine et (vk5 0 1 4 5 6 (vc_block ?_))
 refine vc_loop (w0 := w0) (M := [c.pb]) (fun (y : ESt) => [(0, .pointer (some ⟨c.pb, 0, none⟩)), (1, .int .i64 (d : Int)), (4, .pointer (some ⟨b4, 0, none⟩)), (5, .slice y.ow y.W.length y.cw), (6, .pointer (some ⟨b6, 0, none⟩))]) (fun (y : ESt) => [.own (.slice y.ow y.W.length y.cw) 124 8 y.W.length y.xs, .tree y.SW (fun w => PdSs 60 w y.W y.xs y.SW), .blk b6 (.cells (exC y.x y.ox y.cx).toArray 60 (0, 0)), .tree y.Sx (fun w => ExR 60 w y.ox y.cx y.x.kids y.Sx), .blk b4 (.cells ex00.toArray 60 (0, 0)), .blk c.pb (.cells (pcell c y.r).toArray c.T (0, 0))]) (fun (y : ESt) _ => y.r <:+ r ∧ y.r.length < r.length ∧ y.W.length + y.r.length ≤ r.length ∧ y.r.length < y.n ∧ Nw w0.heap.size y.SW ∧ Nw w0.heap.size y.Sx ∧ exprW (unaryP c.e m) r = contE (unaryP c.e m) y.n y.W y.x y.r) (fun (y : ESt) => y.r.length) ⟨[], x0, r0, r0.length + 1, none, 0, [], [], ox0, cx0, Sx0⟩ ⟨rfl, rfl, rfl, rfl, rfl, trivial⟩ (st.pick [3, 4, 0, 1, 2, 5] rfl (by decide)) ⟨hsfr0, hlnr0, by simp; omega, by dsimp only; omega, Nw.nil, hNSx0, hs⟩ ?_
 clear st hs
 rintro ⟨W, x, r1, n, ow, cW, xs, SW, ox, cx, Sx⟩ w ⟨hsf1, hlt1, hWl, hn1, hSW, hSx, hs⟩ st
 dsimp only at hsf1 hlt1 hWl hn1 hSW hSx hs st
 have hr1 := hsf1.trans hr
 obtain ⟨n, rfl⟩ : ∃ k, n = k + 1 := ⟨n - 1, by omega⟩
 refine vc_block (sr ?_)
 refine ym ?_
 refine vc_e (e_call [_] rfl rfl call42 rfl (phere_any c r1 hr1 _ (hC.k1 st.chg) (by exact st.res (i := 5) rfl)) ?_)
 rintro _ w ⟨rfl, cw⟩
 replace st := st.call0 cw
 refine vc_e (e_al (l := [_, _, _, _]) st rfl rfl zeroValue82 rfl ?_)
 intro b7 w hb7 st
 refine vc_e (e_sts (vs := [_, _, _, _]) st 0 rfl rfl rfl rfl rfl sizeOf82 rfl rfl (by (right; assumption)) ?_)
 intro w st; dsimp only [setNth, wr] at st
 refine et (vk6 0 1 4 5 6 7 (sr ?_))
 refine yfz 1 underlying82 sizeOf9 ?_
 refine yl st 0 isAgg9 ?_
 refine vc_e (e_call [_] rfl rfl call101 rfl (find_any (here r1).text _ (hg ▸ (hC.k1 st.chg).sig)) ?_)
 rintro _ _ ⟨rfl, rfl⟩
 refine ym ?_
 iterate 2 refine vy (y_ext rfl rfl) ?_
 iterate 2 refine ya ?_
 refine et (vk8 0 1 4 5 6 7 8 9 ?_)
 refine vc_cut (w0 := w0) (M := [c.pb]) (fun (b : Bool) => [(0, .pointer (some ⟨c.pb, 0, none⟩)), (1, .int .i64 (d : Int)), (4, .pointer (some ⟨b4, 0, none⟩)), (5, .slice (ESt.mk W x r1 n ow cW xs SW ox cx Sx).ow (ESt.mk W x r1 n ow cW xs SW ox cx Sx).W.length (ESt.mk W x r1 n ow cW xs SW ox cx Sx).cw), (6, .pointer (some ⟨b6, 0, none⟩)), (7, .pointer (some ⟨b7, 0, none⟩)), (8, .int .u8 (((findO (here r1).text).getD 0 : Nat) : Int)), (9, .bool b)]) (fun _ => [.blk b7 (.cells (tkL (here r1)).toArray 82 (0, 0)), .own (.slice (ESt.mk W x r1 n ow cW xs SW ox cx Sx).ow (ESt.mk W x r1 n ow cW xs SW ox cx Sx).W.length (ESt.mk W x r1 n ow cW xs SW ox cx Sx).cw) 124 8 (ESt.mk W x r1 n ow cW xs SW ox cx Sx).W.length (ESt.mk W x r1 n ow cW xs SW ox cx Sx).xs, .tree (ESt.mk W x r1 n ow cW xs SW ox cx Sx).SW (fun w => PdSs 60 w (ESt.mk W x r1 n ow cW xs SW ox cx Sx).W (ESt.mk W x r1 n ow cW xs SW ox cx Sx).xs (ESt.mk W x r1 n ow cW xs SW ox cx Sx).SW), .blk b6 (.cells (exC (ESt.mk W x r1 n ow cW xs SW ox cx Sx).x (ESt.mk W x r1 n ow cW xs SW ox cx Sx).ox (ESt.mk W x r1 n ow cW xs SW ox cx Sx).cx).toArray 60 (0, 0)), .tree (ESt.mk W x r1 n ow cW xs SW ox cx Sx).Sx (fun w => ExR 60 w (ESt.mk W x r1 n ow cW xs SW ox cx Sx).ox (ESt.mk W x r1 n ow cW xs SW ox cx Sx).cx (ESt.mk W x r1 n ow cW xs SW ox cx Sx).x.kids (ESt.mk W x r1 n ow cW xs SW ox cx Sx).Sx), .blk b4 (.cells ex00.toArray 60 (0, 0)), .blk c.pb (.cells (pcell c r1).toArray c.T (0, 0))]) (fun b _ => b = (opT (here r1)).isSome) ?_ ?_
 ·refine vc_region ?_
  refine ym ?_
  refine vmb ?_ ?_
  ·intro hg23
   try simp only [dn] at hg23
   refine vy (y_fa0 rfl underlying82 rfl rfl sizeOf80 rfl) ?_
   refine yl st 0 isAgg80 ?_
   refine vy (y_eqi rfl rfl) ?_
   refine ypt ?_
   refine ya ?_
   refine vc_end ?_
   refine vq_meet (decide (((here r1).kind : Int) = 4)) ⟨rfl, rfl, rfl, rfl, rfl, rfl, rfl, rfl, trivial⟩ st ?_
   ·show decide _ = _
    have hk4 : ((here r1).kind : Int) = 4 ↔ (here r1).kind = 4 := by omega
    unfold opT
    by_cases hk : (here r1).kind = 4
    ·simp [hk, hg23]
    ·simp [hk, hk4]
  intro hg23
  try simp only [dn] at hg23
  iterate 3 refine vsk ?_
  refine ypf ?_
  refine ya ?_
  refine vc_end ?_
  refine vq_meet false ⟨rfl, rfl, rfl, rfl, rfl, rfl, rfl, rfl, trivial⟩ st ?_
  ·show false = _
   unfold opT
   split
   ·exact hg23.symm
   ·rfl
 clear st
 rintro isop w hop st
 dsimp only at hop st
 refine vc_cut (w0 := w0) (M := [c.pb]) (fun (z : ESt) => [(0, .pointer (some ⟨c.pb, 0, none⟩)), (1, .int .i64 (d : Int)), (4, .pointer (some ⟨b4, 0, none⟩)), (5, .slice z.ow z.W.length z.cw), (6, .pointer (some ⟨b6, 0, none⟩)), (7, .pointer (some ⟨b7, 0, none⟩)), (8, .int .u8 (((findO (here r1).text).getD 0 : Nat) : Int)), (9, .bool isop)]) (fun (z : ESt) => [.blk b7 (.cells (tkL (here r1)).toArray 82 (0, 0)), .own (.slice z.ow z.W.length z.cw) 124 8 z.W.length z.xs, .tree z.SW (fun w => PdSs 60 w z.W z.xs z.SW), .blk b6 (.cells (exC z.x z.ox z.cx).toArray 60 (0, 0)), .tree z.Sx (fun w => ExR 60 w z.ox z.cx z.x.kids z.Sx), .blk b4 (.cells ex00.toArray 60 (0, 0)), .blk c.pb (.cells (pcell c r1).toArray c.T (0, 0))]) (fun (z : ESt) _ => z.W.length ≤ W.length ∧ Nw w0.heap.size z.SW ∧ Nw w0.heap.size z.Sx ∧ redu (!isop) (lvlO (((findO (here r1).text).getD 0 : Nat) : Int)) W x = (z.W, z.x) ∧ (isop = false → z.W = [])) ?_ ?_
 ·refine vc_block ?_
  refine vc_loop (w0 := w0) (M := [c.pb]) (fun (z : ESt) => [(0, .pointer (some ⟨c.pb, 0, none⟩)), (1, .int .i64 (d : Int)), (4, .pointer (some ⟨b4, 0, none⟩)), (5, .slice z.ow z.W.length z.cw), (6, .pointer (some ⟨b6, 0, none⟩)), (7, .pointer (some ⟨b7, 0, none⟩)), (8, .int .u8 (((findO (here r1).text).getD 0 : Nat) : Int)), (9, .bool isop)]) (fun (z : ESt) => [.blk b7 (.cells (tkL (here r1)).toArray 82 (0, 0)), .own (.slice z.ow z.W.length z.cw) 124 8 z.W.length z.xs, .tree z.SW (fun w => PdSs 60 w z.W z.xs z.SW), .blk b6 (.cells (exC z.x z.ox z.cx).toArray 60 (0, 0)), .tree z.Sx (fun w => ExR 60 w z.ox z.cx z.x.kids z.Sx), .blk b4 (.cells ex00.toArray 60 (0, 0)), .blk c.pb (.cells (pcell c r1).toArray c.T (0, 0))]) (fun (z : ESt) _ => z.W.length ≤ W.length ∧ Nw w0.heap.size z.SW ∧ Nw w0.heap.size z.Sx ∧ redu (!isop) (lvlO (((findO (here r1).text).getD 0 : Nat) : Int)) W x = redu (!isop) (lvlO (((findO (here r1).text).getD 0 : Nat) : Int)) z.W z.x) (fun (z : ESt) => z.W.length) ⟨W, x, r1, n, ow, cW, xs, SW, ox, cx, Sx⟩ ⟨rfl, rfl, rfl, rfl, rfl, rfl, rfl, rfl, trivial⟩ st ⟨Nat.le_refl _, hSW, hSx, rfl⟩ ?_
  clear st
  rintro ⟨zW, zx, zr, zn, zow, zcW, zxs, zSW, zox, zcx, zSx⟩ w ⟨hzl, hzSW, hzSx, hzr⟩ st
  dsimp only at hzl hzSW hzSx hzr st
  refine vc_seq (sr ?_)
  refine ym ?_
  refine vy (y_lensl rfl underlying122) ?_
  refine vy (y_gtr rfl rfl) ?_
  refine vmb ?_ ?_
  ·intro hg31
   try simp only [dn] at hg31
   obtain ⟨⟨po, pa, pl⟩, W2, rfl⟩ : ∃ p W2, zW = p :: W2 := by cases zW with | nil => simp at hg31 | cons p W2 => exact ⟨p, W2, rfl⟩
   obtain ⟨ol, cl, Sl, xr, Sr, rfl, hS, hRl, hPr⟩ := (st.res (i := 2) rfl).1
   have hxl := hPr.len
   have hzl2 : W2.length + 1 ≤ W.length := by simpa using hzl
   have hcap := own_cap (st.res (i := 1) rfl)
   obtain ⟨gb, rfl⟩ := own_some (st.res (i := 1) rfl) (by simp)
   refine ym ?_
   refine vy (y_not rfl) ?_
   refine vmb ?_ ?_
   ·intro hg34
    try simp only [dn] at hg34
    iterate 11 refine vsk ?_
    iterate 2 refine ypt ?_
    refine et (vk9 0 1 4 5 6 7 8 9 47 ?_)
    refine vc_ift rfl ?_
    refine kt (vk8 0 1 4 5 6 7 8 9 (vc_block (sr ?_)))
    subst hS
    have st0 := (st.pick [2, 0, 1, 3, 4, 5, 6] rfl (by decide)).split hzSW.1 hPr hRl loc_pd loc_ex
    replace st := st0.pick [2, 3, 0, 1, 4, 5, 6, 7] rfl (by decide)
    iterate 2 refine ym ?_
    refine vy (y_lensl rfl underlying122) ?_
    refine vy (y_sub rfl rfl (by simp : _ = (W2.length : Int)) (by omega) (by omega)) ?_
    refine vy (y_ia0 (k := W2.length) rfl rfl underlying122 sizeOf124 rfl (by simp)) ?_
    refine vy (y_ldoa (vs := pdC (po, pa, pl) ol cl) st 1 rfl isAgg124 sizeOf124 rfl rfl (fun j v hj => (app_at hxl).trans hj)) ?_
    refine vc_e (e_al (l := [_, _, _, _, _, _, _, _]) st rfl rfl zeroValue124 rfl ?_)
    intro b10 w hb10 st
    refine vc_e (e_sts (vs := [_, _, _, _, _, _, _, _]) st 0 rfl rfl rfl rfl rfl sizeOf124 rfl rfl (by (right; assumption)) ?_)
    intro w st; dsimp only [setNth, wr] at st
    refine et (vk9 0 1 4 5 6 7 8 9 10 (sr ?_))
    iterate 2 refine ym ?_
    refine vy (y_lensl rfl underlying122) ?_
    refine vy (y_sub rfl rfl (by simp : _ = (W2.length : Int)) (by omega) (by omega)) ?_
    refine vy (y_slh (j := W2.length) rfl rfl underlying122 sizeOf124 rfl (by show W2.length ≤ zcW; simp at hcap; omega)) ?_
    refine ya ?_
    refine et (vk9 0 1 4 5 6 7 8 9 10 (vc_region ?_))
    replace st := (st.pick [2, 0, 1, 3, 4, 5, 6, 7, 8] rfl (by decide)).shrink (m := W2.length) (by simp) hxl
    refine vy (y_fa0 rfl underlying124 rfl rfl sizeOf58 rfl) ?_
    refine yl st 1 isAgg58 ?_
    refine yfz 2 underlying124 sizeOf60 ?_
    refine yla st 1 [_, _, _, _, _, _] isAgg60 sizeOf60 ?_
    refine yla st 5 [_, _, _, _, _, _] isAgg60 sizeOf60 ?_
    refine vc_e (e_bsn (l := exC pl ol cl ++ exC zx zox zcx) (E := 60) st [(0, _), (1, _)] rfl rfl rfl (fun w => by simp [Instr.buildSlice, run_underlying underlying54, sizeOf60, zeroValue60, Instr.fill, newRow, newObj, Sem.run, go_sem, Value.cells]) ?_)
    intro b64 w hb64 st
    refine yfz 1 underlying124 sizeOf3 ?_
    refine yl st 2 isAgg3 ?_
    refine vy (y_bld (.agg #[_, _, _, _, _, _]) [(0, _), (1, _), (4, _), (5, _)] rfl (fun w => by simp [Instr.build, go_sem] <;> repeat' constructor)) ?_
    refine vc_e (e_sts (vs := [_, _, _, _, _, _]) st 6 rfl rfl rfl rfl rfl sizeOf60 rfl rfl (by (right; assumption)) ?_)
    intro w st; dsimp only [setNth, wr] at st
    refine vc_end (vq_block ?_)
    refine vq_again ⟨W2, binE po pa pl zx, zr, zn, some ⟨gb, 0, none⟩, zcW, xr, Sr, some ⟨b64, 0, none⟩, 2, b64 :: (Sl ++ zSx)⟩  ⟨rfl, rfl, rfl, rfl, rfl, rfl, rfl, rfl, trivial⟩ (by
      have hE := ex_two (st.res (i := 0) rfl) (st.res (i := 5) rfl).1 (st.res (i := 7) rfl).1
      exact (((st.pick [0, 5, 7, 3, 1, 4, 6, 8, 9] rfl (by decide)).joinN 3 (q := .tree (b64 :: (Sl ++ zSx)) fun w => ExR 60 w (some ⟨b64, 0, none⟩) 2 [pl, zx] (b64 :: (Sl ++ zSx))) (fun k hk => by
        rcases List.mem_cons.1 hk with rfl | hk
        · exact ⟨_, .head _, .head _⟩
        · rcases List.mem_append.1 hk with h | h
          · exact ⟨_, .tail _ (.head _), h⟩
          · exact ⟨_, .tail _ (.tail _ (.head _)), h⟩) (holds_ex hE))).pick [1, 2, 3, 4, 0, 5, 6] rfl (by decide)) ?_ ?_
    ·have hrd : redu (!isop) (lvlO (((findO (here r1).text).getD 0 : Nat) : Int)) ((po, pa, pl) :: W2) zx = redu (!isop) (lvlO (((findO (here r1).text).getD 0 : Nat) : Int)) W2 (binE po pa pl zx) := by
      simp only [redu]
      rw [if_pos (.inl (by rw [hg34]; rfl))]
     refine ⟨by simp at hzl; dsimp only; omega, hzSW.left, ?_, hzr.trans hrd⟩
     refine Nw.app (S := [b64]) ⟨by simp, by simpa using hb64⟩ (hzSW.right.app hzSx (st.ne (i := 5) (j := 7) (by decide) rfl rfl)) (fun b hb hb' => ?_)
     rcases List.mem_append.1 hb' with h | h
     ·exact st.ne (i := 0) (j := 5) (by decide) rfl rfl b hb h
     ·exact st.ne (i := 0) (j := 7) (by decide) rfl rfl b hb h
    ·simp
   intro hg34
   try simp only [dn] at hg34
   iterate 2 refine ym ?_
   refine vy (y_lensl rfl underlying122) ?_
   refine vy (y_sub rfl rfl (by simp : _ = (W2.length : Int)) (by omega) (by omega)) ?_
   refine vy (y_ia0 (k := W2.length) rfl rfl underlying122 sizeOf124 rfl (by simp)) ?_
   refine vy (y_fa0 rfl underlying124 rfl rfl sizeOf58 rfl) ?_
   refine vy (y_ldo st 1 rfl isAgg58 rfl (app_at (j := 0) hxl)) ?_
   refine vc_e (e_call [_] rfl rfl call102 rfl (level_any _ _ (hg ▸ (hC.k1 st.chg).sig)) ?_)
   rintro _ _ ⟨rfl, rfl⟩
   refine ym ?_
   refine vc_e (e_call [_] rfl rfl call102 rfl (level_any _ _ (hg ▸ (hC.k1 st.chg).sig)) ?_)
   rintro _ _ ⟨rfl, rfl⟩
   refine vy (y_geq rfl rfl) ?_
   refine ypf ?_
   refine ypt ?_
   refine et (vk9 0 1 4 5 6 7 8 9 47 ?_)
   refine vif ?_ ?_
   ·intro hc47
    try simp only [dn] at hc47
    refine kt (vk8 0 1 4 5 6 7 8 9 (vc_block (sr ?_)))
    subst hS
    have st0 := (st.pick [2, 0, 1, 3, 4, 5, 6] rfl (by decide)).split hzSW.1 hPr hRl loc_pd loc_ex
    replace st := st0.pick [2, 3, 0, 1, 4, 5, 6, 7] rfl (by decide)
    iterate 2 refine ym ?_
    refine vy (y_lensl rfl underlying122) ?_
    refine vy (y_sub rfl rfl (by simp : _ = (W2.length : Int)) (by omega) (by omega)) ?_
    refine vy (y_ia0 (k := W2.length) rfl rfl underlying122 sizeOf124 rfl (by simp)) ?_
    refine vy (y_ldoa (vs := pdC (po, pa, pl) ol cl) st 1 rfl isAgg124 sizeOf124 rfl rfl (fun j v hj => (app_at hxl).trans hj)) ?_
    refine vc_e (e_al (l := [_, _, _, _, _, _, _, _]) st rfl rfl zeroValue124 rfl ?_)
    intro b10 w hb10 st
    refine vc_e (e_sts (vs := [_, _, _, _, _, _, _, _]) st 0 rfl rfl rfl rfl rfl sizeOf124 rfl rfl (by (right; assumption)) ?_)
    intro w st; dsimp only [setNth, wr] at st
    refine et (vk9 0 1 4 5 6 7 8 9 10 (sr ?_))
    iterate 2 refine ym ?_
    refine vy (y_lensl rfl underlying122) ?_
    refine vy (y_sub rfl rfl (by simp : _ = (W2.length : Int)) (by omega) (by omega)) ?_
    refine vy (y_slh (j := W2.length) rfl rfl underlying122 sizeOf124 rfl (by show W2.length ≤ zcW; simp at hcap; omega)) ?_
    refine ya ?_
    refine et (vk9 0 1 4 5 6 7 8 9 10 (vc_region ?_))
    replace st := (st.pick [2, 0, 1, 3, 4, 5, 6, 7, 8] rfl (by decide)).shrink (m := W2.length) (by simp) hxl
    refine vy (y_fa0 rfl underlying124 rfl rfl sizeOf58 rfl) ?_
    refine yl st 1 isAgg58 ?_
    refine yfz 2 underlying124 sizeOf60 ?_
    refine yla st 1 [_, _, _, _, _, _] isAgg60 sizeOf60 ?_
    refine yla st 5 [_, _, _, _, _, _] isAgg60 sizeOf60 ?_
    refine vc_e (e_bsn (l := exC pl ol cl ++ exC zx zox zcx) (E := 60) st [(0, _), (1, _)] rfl rfl rfl (fun w => by simp [Instr.buildSlice, run_underlying underlying54, sizeOf60, zeroValue60, Instr.fill, newRow, newObj, Sem.run, go_sem, Value.cells]) ?_)
    intro b64 w hb64 st
    refine yfz 1 underlying124 sizeOf3 ?_
    refine yl st 2 isAgg3 ?_
    refine vy (y_bld (.agg #[_, _, _, _, _, _]) [(0, _), (1, _), (4, _), (5, _)] rfl (fun w => by simp [Instr.build, go_sem] <;> repeat' constructor)) ?_
    refine vc_e (e_sts (vs := [_, _, _, _, _, _]) st 6 rfl rfl rfl rfl rfl sizeOf60 rfl rfl (by (right; assumption)) ?_)
    intro w st; dsimp only [setNth, wr] at st
    refine vc_end (vq_block ?_)
    refine vq_again ⟨W2, binE po pa pl zx, zr, zn, some ⟨gb, 0, none⟩, zcW, xr, Sr, some ⟨b64, 0, none⟩, 2, b64 :: (Sl ++ zSx)⟩  ⟨rfl, rfl, rfl, rfl, rfl, rfl, rfl, rfl, trivial⟩ (by
      have hE := ex_two (st.res (i := 0) rfl) (st.res (i := 5) rfl).1 (st.res (i := 7) rfl).1
      exact (((st.pick [0, 5, 7, 3, 1, 4, 6, 8, 9] rfl (by decide)).joinN 3 (q := .tree (b64 :: (Sl ++ zSx)) fun w => ExR 60 w (some ⟨b64, 0, none⟩) 2 [pl, zx] (b64 :: (Sl ++ zSx))) (fun k hk => by
        rcases List.mem_cons.1 hk with rfl | hk
        · exact ⟨_, .head _, .head _⟩
        · rcases List.mem_append.1 hk with h | h
          · exact ⟨_, .tail _ (.head _), h⟩
          · exact ⟨_, .tail _ (.tail _ (.head _)), h⟩) (holds_ex hE))).pick [1, 2, 3, 4, 0, 5, 6] rfl (by decide)) ?_ ?_
    ·have hrd : redu (!isop) (lvlO (((findO (here r1).text).getD 0 : Nat) : Int)) ((po, pa, pl) :: W2) zx = redu (!isop) (lvlO (((findO (here r1).text).getD 0 : Nat) : Int)) W2 (binE po pa pl zx) := by
      simp only [redu]
      rw [if_pos (.inr hc47)]
     refine ⟨by simp at hzl; dsimp only; omega, hzSW.left, ?_, hzr.trans hrd⟩
     refine Nw.app (S := [b64]) ⟨by simp, by simpa using hb64⟩ (hzSW.right.app hzSx (st.ne (i := 5) (j := 7) (by decide) rfl rfl)) (fun b hb hb' => ?_)
     rcases List.mem_append.1 hb' with h | h
     ·exact st.ne (i := 0) (j := 5) (by decide) rfl rfl b hb h
     ·exact st.ne (i := 0) (j := 7) (by decide) rfl rfl b hb h
    ·simp
   intro hc47
   try simp only [dn] at hc47
   refine vc_exit (vq_then_exit (vq_then_exit (vq_block_exit ?_)))
   refine vq_meet ⟨(po, pa, pl) :: W2, zx, zr, zn, some ⟨gb, 0, none⟩, zcW, xr ++ pdC (po, pa, pl) ol cl, zSW, zox, zcx, zSx⟩ ⟨rfl, rfl, rfl, rfl, rfl, rfl, rfl, rfl, trivial⟩ st ?_
   ·exact ⟨hzl, hzSW, hzSx, hzr.trans (by simp only [redu]; rw [if_neg (by rw [hg34]; simp; omega)]), fun h => by rw [h] at hg34; cases hg34⟩
  intro hg31
  try simp only [dn] at hg31
  iterate 15 refine vsk ?_
  refine ypf ?_
  refine et (vk9 0 1 4 5 6 7 8 9 47 ?_)
  refine vc_iff rfl ?_
  refine vc_exit (vq_then_exit (vq_then_exit (vq_block_exit ?_)))
  refine vq_meet ⟨zW, zx, zr, zn, zow, zcW, zxs, zSW, zox, zcx, zSx⟩ ⟨rfl, rfl, rfl, rfl, rfl, rfl, rfl, rfl, trivial⟩ st ?_
  ·obtain rfl : zW = [] := List.eq_nil_of_length_eq_zero (by omega)
   exact ⟨hzl, hzSW, hzSx, hzr, fun _ => rfl⟩
 clear st
 rintro ⟨zW, zx, zr, zn, zow, zcW, zxs, zSW, zox, zcx, zSx⟩ w ⟨hzl, hzSW, hzSx, hzr, hz0⟩ st
 dsimp only at hzl hzSW hzSx hzr hz0 st
 refine vc_seq (sr ?_)
 refine ym ?_
 refine vy (y_not rfl) ?_
 refine et (vk8 0 1 4 5 6 7 8 69 ?_)
 refine vif ?_ ?_
 ·intro hc69
  try simp only [dn] at hc69
  have hif : isop = false := by simpa using hc69
  have hno : opT (here r1) = none := by
   rw [hif] at hop
   cases hq : opT (here r1) with
   | none => rfl
   | some o => rw [hq] at hop; cases hop
  obtain rfl := hz0 hif
  rw [hif] at hzr
  simp only [Bool.not_false] at hzr
  replace hs := hs.trans (contE_stop hno hzr)
  refine sr ?_
  refine yla st 3 [_, _, _, _, _, _] isAgg60 sizeOf60 ?_
  refine vc_e (e_sts (vs := [_, _, _, _, _, _]) st 5 rfl rfl rfl rfl rfl sizeOf60 rfl rfl (by (right; assumption)) ?_)
  intro w st; dsimp only [setNth, wr] at st
  refine et (vk1 4 (vc_ret (vq_then_ret (vq_block_ret (vq_then_ret (vq_block_ret ?_))))))
  refine vq_ret1 st (.inl rfl) results92 (by exact .cell 5 rfl rfl isAgg60 sizeOf60) ?_
  refine .inl ⟨_, rfl, ?_⟩
  exact ⟨zx, r1, hs, hsf1, hlt1, (by exact st.res (i := 6) rfl), st.chg, zox, zcx, zSx, rfl, (st.res (i := 4) rfl).1, hzSx⟩
 intro hc69
 try simp only [dn] at hc69
 have hit : isop = true := by simpa using hc69
 obtain ⟨op, hop1⟩ : ∃ op, opT (here r1) = some op := by
  rw [hit] at hop
  cases hq : opT (here r1) with
  | none => rw [hq] at hop; cases hop
  | some o => exact ⟨o, rfl⟩
 have hfo : findO (here r1).text = some op := by
  unfold opT at hop1; split at hop1
  ·exact hop1
  ·cases hop1
 rw [hit, hfo] at hzr
 simp only [Bool.not_true, Option.getD_some] at hzr
 replace hs := hs.trans (contE_step hop1 hzr)
 have hne1 := opT_ne hop1
 have htl1 := tail_lt hne1
 refine kt (vk7 0 1 4 5 6 7 8 (sr ?_))
 refine ym ?_
 refine vc_e (e_call [_] rfl rfl call43 rfl (pnext_any c r1 hr1 hne1 _ (hC.k1 st.chg) (by exact st.res (i := 6) rfl)) ?_)
 rintro _ w ⟨rfl, hP1, cw⟩
 replace st := St.prs (b := c.pb) st 6 rfl cw (.inl (.head _)) hP1
 dsimp only [setNth] at st
 refine et (vk7 0 1 4 5 6 7 8 (sr ?_))
 iterate 2 refine ym ?_
 refine yfz 3 underlying82 sizeOf3 ?_
 refine yl st 0 isAgg3 ?_
 refine yla st 3 [_, _, _, _, _, _] isAgg60 sizeOf60 ?_
 refine vy (y_bld (.agg #[_, _, _, _, _, _, _, _]) [(0, _), (1, _), (2, _)] rfl (fun w => by simp [Instr.build, go_sem] <;> repeat' constructor)) ?_
 refine vc_e (e_bs1 (l := [_, _, _, _, _, _, _, _]) st rfl rfl rfl rfl underlying122 sizeOf124 rfl rfl rfl zeroValue124 ?_)
 intro b79 w hb79 st
 refine vc_e (e_app (bytes := 80) st 2 0 rfl rfl rfl rfl rfl rfl underlying122 Tryz.info124 rfl rfl rfl rfl rfl (by simp) rfl rfl (by unfold maxLen; omega) (by omega) ?_)
 intro oaQ capQ w st; dsimp only [setNth] at st
 refine ya ?_
 refine et (vk5 0 1 4 5 6 (vc_region ?_))
 rw [hfo] at st
 dsimp only [Option.getD_some] at st
 have hT' : PdSs 60 w ((op, (here r1).at_, zx) :: zW) (zxs ++ pdC (op, (here r1).at_, zx) zox zcx) (zSW ++ zSx) := ⟨zox, zcx, zSx, zxs, zSW, rfl, rfl, (st.res (i := 5) rfl).1, (st.res (i := 3) rfl).1⟩
 have hSW' := hzSW.app hzSx (st.ne (i := 3) (j := 5) (by decide) rfl rfl)
 replace st := ((st.pick [3, 5, 2, 4, 6, 7] rfl (by decide)).join (q := .tree (zSW ++ zSx) (fun w => PdSs 60 w ((op, (here r1).at_, zx) :: zW) (zxs ++ pdC (op, (here r1).at_, zx) zox zcx) (zSW ++ zSx))) (fun k hk => List.mem_append.1 hk) (holds_pd hT'))
 iterate 2 refine ym ?_
 refine vc_e (e_callp [_, _] rfl rfl call100 rfl (hU r1.tail (suf_tail hr1) _ (hC.k1 st.chg) (by exact st.res (i := 4) rfl)) (by rintro _ w' ⟨f, hf, rfl, ch⟩ a ha; exact And.intro ha (Or.inr ⟨_, rfl, f, by rw [hs, hf], rfl, st.chg.trans ch⟩)) ?_)
 rintro _ w ⟨x2, r2, hx, hsfr2, hlnr2, hP1, cw, oy, cy, Sy, rfl, hQ, hN⟩
 have hNSy := hN.le st.chg.size
 replace st := St.prsT (b := c.pb) st 4 rfl cw (.inl (.head _)) hP1 (holds_ex hQ) hN.2
 dsimp only [setNth] at st
 rw [hx] at hs; dsimp only at hs
 refine vc_e (e_sts (vs := [_, _, _, _, _, _]) st 3 rfl rfl rfl rfl rfl sizeOf60 rfl rfl (by (right; assumption)) ?_)
 intro w st; dsimp only [setNth, wr] at st
 refine vc_end (vq_block ?_)
 refine vq_again ⟨(op, (here r1).at_, zx) :: zW, x2, r2, n, oaQ, capQ, zxs ++ pdC (op, (here r1).at_, zx) zox zcx, zSW ++ zSx, oy, cy, Sy⟩  ⟨rfl, rfl, rfl, rfl, rfl, trivial⟩ (st.pick [2, 1, 3, 0, 4, 5] rfl (by decide)) ?_ ?_
 ·exact ⟨(hsfr2.trans (List.tail_suffix _)).trans hsf1, by dsimp only; omega, by simp only [List.length_cons]; omega, by dsimp only; omega, hSW', hNSy, hs⟩
 dsimp only; omega
end Go.Proofs.YtggnfanphcaamaaGreatDoor


/- The engine, sixteenth part: a text that grows in somebody's memory: a struct of a byte slice and a flag. -/
namespace Sx
open Go Go.RowKit

section
variable {w0 w w' : World} {M : List Nat} {hs : List Res}

variable {P : Program} {n : Fr} {L : List Oper} {Q : Exit → Act → World → Prop} {kn : Kn} {N : Act → World → Prop}
variable {d ty : Nat} {pos : String} {aft : Array Edge} {g : Option (Nat × Bool)}

/-! ## the text -/
variable {E n0 T bw : Nat} {v : Value} {F : List UInt8}
end
end Sx


/- The engine, seventeenth part: a byte slice in a box that a closure holds. -/
namespace Sx
open Go Go.RowKit
section
variable {w0 w w' : World} {M : List Nat} {hs : List Res} {E n0 T b n n' : Nat} {v v' : Value} {l l' : List UInt8} {xs xs' : List Value}

theorem St.split2 {q r s : Res} (st : St w0 M (q :: hs) w) (h1 : ∀ k ∈ r.at?, k ∈ q.at?) (h2 : ∀ k ∈ s.at?, k ∈ q.at?) (h3 : ∀ k ∈ r.at?, k ∉ s.at?) (hr : r.holds w0.heap.size w) (hs' : s.holds w0.heap.size w) : St w0 M (r :: s :: hs) w := by
  have hnd := List.pairwise_cons.1 st.nodup
  refine ⟨st.chg, List.pairwise_cons.2 ⟨fun x hx => ?_, List.pairwise_cons.2 ⟨fun x hx k hk => hnd.1 x hx k (h2 k hk), hnd.2⟩⟩, fun x hx => ?_⟩
  · rcases List.mem_cons.1 hx with rfl | hx
    · exact h3
    · exact fun k hk => hnd.1 x hx k (h1 k hk)
  · rcases List.mem_cons.1 hx with rfl | hx
    · exact hr
    · rcases List.mem_cons.1 hx with rfl | hx
      · exact hs'
      · exact st.here x (.tail _ hx)

end
end Sx


/- A parser's statements. -/
namespace Sx
open Go Go.RowKit LexS ParS
abbrev sm00 (a : Int) : List Value := [.int .u8 0, str [], str [], .slice none 0 0, .slice none 0 0, .slice none 0 0, .int .i64 a]
def choiceP (e : Nat) (blk : List Tok → PR (List Sm)) (a : Nat) (r0 : List Tok) : PR Sm := match condP e r0 with
  | .error f => .error f
  | .ok (x, r) => match blk r with
    | .error f => .error f
    | .ok (b, r1) => if isT wElse r1 = true then (match blk r1.tail with
        | .error f => .error f
        | .ok (l, r2) => .ok (.mk 3 [] [] [x] b l (a : Int), r2))
      else .ok (.mk 3 [] [] [x] b [] (a : Int), r1)
def loopP (e : Nat) (blk : List Tok → PR (List Sm)) (a : Nat) (r0 : List Tok) : PR Sm := match condP e r0 with
  | .error f => .error f
  | .ok (x, r) => match blk r with
    | .error f => .error f
    | .ok (b, r1) => .ok (.mk 4 [] [] [x] b [] (a : Int), r1)
def guardP (e : Nat) (blk : List Tok → PR (List Sm)) (a : Nat) (r0 : List Tok) : PR Sm := match nameP e r0 with
  | .error f => .error f
  | .ok (t, r) => match blk r with
    | .error f => .error f
    | .ok (b, r1) => .ok (.mk 5 t.text [] [] b [] (a : Int), r1)
def printP (e : Nat) (a : Nat) (r0 : List Tok) : PR Sm := match exprP e 64 r0 with
  | .error f => .error f
  | .ok (x, r) => match want e [59] r with
    | .error f => .error f
    | .ok r' => .ok (.mk 6 [] [] [x] [] [] (a : Int), r')
def skipP (e : Nat) (a : Nat) (r0 : List Tok) : PR Sm := match want e [59] r0 with
  | .error f => .error f
  | .ok r => .ok (.mk 7 [] [] [] [] [] (a : Int), r)
theorem stmtW_eq (e : Nat) (blk : List Tok → PR (List Sm)) (ts : List Tok) : stmtW e blk ts =
    if formT (here ts) wIf = true then choiceP e blk (atT e ts) ts.tail
    else if formT (here ts) wWhile = true then loopP e blk (atT e ts) ts.tail
    else if formT (here ts) wLock = true then guardP e blk (atT e ts) ts.tail
    else if formT (here ts) wPrint = true then printP e (atT e ts) ts.tail
    else if formT (here ts) wSkip = true then skipP e (atT e ts) ts.tail
    else assignP e (atT e ts) ts := by
  unfold stmtW choiceP loopP guardP printP skipP
  have hx : ∀ r, exprSemi e r = match exprP e 64 r with
      | .error f => .error f
      | .ok (x, r) => match want e [59] r with
        | .error f => .error f
        | .ok r' => .ok (x, r') := fun r => rfl
  split
  · rfl
  · split
    · rfl
    · split
      · rfl
      · split
        · rw [hx]
          cases exprP e 64 ts.tail with
          | error f => rfl
          | ok p =>
            simp only
            cases want e [59] p.2 <;> rfl
        · split <;> rfl
/-- the pieces of an assignment -/
theorem assignP_eq (e a : Nat) (ts : List Tok) : assignP e a ts = match nameP e ts with
    | .error f => .error f
    | .ok (t, r) => match want e [61] r with
      | .error f => .error f
      | .ok r1 => if isT wSwap r1 = true then (match want e [40] r1.tail with
          | .error f => .error f
          | .ok r2 => match nameP e r2 with
            | .error f => .error f
            | .ok (o, r3) => match want e [44] r3 with
              | .error f => .error f
              | .ok r4 => match exprP e 64 r4 with
                | .error f => .error f
                | .ok (x, r5) => match wantL e [[41], [59]] r5 with
                  | .error f => .error f
                  | .ok r6 => .ok (.mk 2 t.text o.text [x] [] [] (a : Int), r6))
        else match exprP e 64 r1 with
          | .error f => .error f
          | .ok (x, r2) => match want e [59] r2 with
            | .error f => .error f
            | .ok r3 => .ok (.mk 1 t.text [] [x] [] [] (a : Int), r3) := by
  unfold assignP swapP exprSemi
  cases nameP e ts with
  | error f => rfl
  | ok p =>
    simp only
    cases want e [61] p.2 with
    | error f => rfl
    | ok r1 =>
      simp only
      split
      · cases want e [40] r1.tail with
        | error f => rfl
        | ok r2 =>
          simp only
          cases nameP e r2 with
          | error f => rfl
          | ok q =>
            simp only
            cases want e [44] q.2 with
            | error f => rfl
            | ok r4 =>
              simp only
              cases exprP e 64 r4 with
              | error f => rfl
              | ok y =>
                simp only [wantL]
                cases want e [41] y.2 with
                | error f => rfl
                | ok r5 =>
                  simp only
                  cases want e [59] r5 <;> rfl
      · cases exprP e 64 r1 with
        | error f => rfl
        | ok y =>
          simp only
          cases want e [59] y.2 <;> rfl
/-- a block's reader; 'm': how much deeper blocks may lie -/
def blkP (e : Nat) : Nat → List Tok → PR (List Sm)
  | 0, r => if isT [123] r = true then fail e 3 r else fail e 2 r
  | m + 1, r => match want e [123] r with
    | .error f => .error f
    | .ok r1 => restW (stmtP e m) (r1.length + 1) r1
theorem stmtP_blk (e m : Nat) : stmtP e m = stmtW e (blkP e m) := by
  cases m with
  | zero => funext ts; rw [stmtP]; rfl
  | succ m => funext ts; rw [stmtP]; rfl
/-- statements, so many having come -/
def contS (st : List Tok → PR Sm) (n : Nat) (acc : List Sm) (r : List Tok) : PR (List Sm) := match restW st n r with
  | .error f => .error f
  | .ok (l, r') => .ok (acc ++ l, r')
theorem contS_nil (st : List Tok → PR Sm) (n : Nat) (r : List Tok) : restW st n r = contS st n [] r := by unfold contS; cases restW st n r with | error f => rfl | ok p => rfl
theorem contS_end {st : List Tok → PR Sm} {n : Nat} {acc : List Sm} {r : List Tok} (h : isT [125] r = true) : contS st (n + 1) acc r = .ok (acc, r.tail) := by simp only [contS, restW, if_pos h, List.append_nil]
theorem contS_step {st : List Tok → PR Sm} {n : Nat} {acc : List Sm} {r : List Tok} (h : isT [125] r = false) : contS st (n + 1) acc r = match st r with
    | .error f => .error f
    | .ok (s, r') => contS st n (acc ++ [s]) r' := by
  simp only [contS, restW, if_neg (show ¬ isT [125] r = true by simp [h])]
  cases st r with
  | error f => rfl
  | ok p =>
    simp only
    cases restW st n p.2 with
    | error f => rfl
    | ok q => simp
section
variable {tE tS : Nat} {w : World}
theorem exr_nil : ExR tE w none 0 [] [] := ⟨[], [], World.ownsRow_nil _ _ _ _, rfl, rfl, rfl⟩
theorem smr_nil : SmR tE tS w none 0 [] [] := ⟨[], [], World.ownsRow_nil _ _ _ _, rfl, rfl, rfl⟩
/-- what a statement's reader leaves in its block -/
def StIn (tE tS xb : Nat) (n : Nat) (s : Sm) (w' : World) : Prop := ∃ oe ob ol ce cb cl Se Sb Sl, w'.heap[xb]? = some (.cells (smC s oe ob ol ce cb cl).toArray tS (0, 0)) ∧ ExR tE w' oe ce s.e Se ∧ SmR tE tS w' ob cb s.body Sb ∧ SmR tE tS w' ol cl s.els Sl ∧ Nw n (Se ++ (Sb ++ Sl))
theorem getF5 {v1 v2 v3 v4 v5 : Value} (s : List UInt8) : (s = wIf ∧ getF [(wIf, v1), (wWhile, v2), (wLock, v3), (wPrint, v4), (wSkip, v5)] s = some v1) ∨ (s = wWhile ∧ getF [(wIf, v1), (wWhile, v2), (wLock, v3), (wPrint, v4), (wSkip, v5)] s = some v2) ∨
    (s = wLock ∧ getF [(wIf, v1), (wWhile, v2), (wLock, v3), (wPrint, v4), (wSkip, v5)] s = some v3) ∨ (s = wPrint ∧ getF [(wIf, v1), (wWhile, v2), (wLock, v3), (wPrint, v4), (wSkip, v5)] s = some v4) ∨ (s = wSkip ∧ getF [(wIf, v1), (wWhile, v2), (wLock, v3), (wPrint, v4), (wSkip, v5)] s = some v5) ∨
    ((s ≠ wIf ∧ s ≠ wWhile ∧ s ≠ wLock ∧ s ≠ wPrint ∧ s ≠ wSkip) ∧ getF [(wIf, v1), (wWhile, v2), (wLock, v3), (wPrint, v4), (wSkip, v5)] s = none) := by
  by_cases h1 : s = wIf
  · exact .inl ⟨h1, by simp [getF, h1]⟩
  by_cases h2 : s = wWhile
  · exact .inr (.inl ⟨h2, by subst h2; simp [getF, h1]⟩)
  by_cases h3 : s = wLock
  · exact .inr (.inr (.inl ⟨h3, by subst h3; simp [getF, h1, h2]⟩))
  by_cases h4 : s = wPrint
  · exact .inr (.inr (.inr (.inl ⟨h4, by subst h4; simp [getF, h1, h2, h3]⟩)))
  by_cases h5 : s = wSkip
  · exact .inr (.inr (.inr (.inr (.inl ⟨h5, by subst h5; simp [getF, h1, h2, h3, h4]⟩))))
  · exact .inr (.inr (.inr (.inr (.inr ⟨⟨h1, h2, h3, h4, h5⟩, by simp [getF, h1, h2, h3, h4, h5]⟩))))
end
end Sx
namespace Sx
open Go Go.RowKit LexS ParS
section
variable {w w' w0 : World} {M : List Nat} {hs : List Res}
/-- two blocks have been written on by a callee, and something new has come -/
theorem St.prs2 {b1 b2 : Nat} {o1 o2 o1' o2' : Obj} {q : Res} (st : St w0 M (.blk b1 o1 :: .blk b2 o2 :: hs) w) (ch : Chg [b1, b2] w w') (hm1 : b1 ∈ M ∨ w0.heap.size ≤ b1) (hm2 : b2 ∈ M ∨ w0.heap.size ≤ b2)
    (h1 : w'.heap[b1]? = some o1') (h2 : w'.heap[b2]? = some o2') (hq : q.holds w0.heap.size w') (hqa : ∀ k ∈ q.at?, w.heap.size ≤ k) : St w0 M (q :: .blk b1 o1' :: .blk b2 o2' :: hs) w' := by
  have hne : b1 ≠ b2 := st.bne 0 1 (by decide) rfl rfl
  have l1 : b1 < w.heap.size := (Array.getElem?_eq_some_iff.1 (st.res (i := 0) rfl)).1
  have l2 : b2 < w.heap.size := (Array.getElem?_eq_some_iff.1 (st.res (i := 1) rfl)).1
  have st1 := st.join (q := .tree [b1, b2] (fun _ => True)) (fun k hk => by
    simp only [Res.at?, List.mem_cons, List.not_mem_nil, or_false] at hk ⊢; exact hk) ⟨trivial, fun k hk => by
      simp only [List.mem_cons, List.not_mem_nil, or_false] at hk
      rcases hk with rfl | rfl <;> assumption, fun _ _ _ _ _ => trivial⟩
  have st2 := st1.swapPush (i := 0) (r' := .tree [b1, b2] (fun _ => True)) rfl ch (fun k hk => hk) (fun k hk => by
      simp only [List.mem_cons, List.not_mem_nil, or_false] at hk
      rcases hk with rfl | rfl <;> assumption) (fun k hk => hk) ⟨trivial, fun k hk => by
      simp only [List.mem_cons, List.not_mem_nil, or_false] at hk
      rcases hk with rfl | rfl
      · exact Nat.lt_of_lt_of_le l1 ch.size
      · exact Nat.lt_of_lt_of_le l2 ch.size, fun _ _ _ _ _ => trivial⟩ hq hqa
  have st3 := st2.perm (List.Perm.swap _ _ _)
  have st4 := st3.split2 (r := .blk b1 o1') (s := .blk b2 o2') (fun k hk => by
    simp only [Res.at?, List.mem_cons, List.not_mem_nil, or_false] at hk ⊢; exact .inl hk) (fun k hk => by
    simp only [Res.at?, List.mem_cons, List.not_mem_nil, or_false] at hk ⊢; exact .inr hk) (fun k hk hk' => by
    simp only [Res.at?, List.mem_cons, List.not_mem_nil, or_false] at hk hk'; exact hne (hk.symm.trans hk')) h1 h2
  exact st4.perm ((List.Perm.cons _ (List.Perm.swap _ _ _)).trans (List.Perm.swap _ _ _))
end
theorem form_ne {t : Tok} {s s' : List UInt8} (h : t.text = s') (hne : s' ≠ s) : ¬ formT t s = true := by unfold formT; simp [h, hne]
theorem stmtW_assign {e : Nat} {blk : List Tok → PR (List Sm)} {ts : List Tok} (h : ((here ts).text ≠ wIf ∧ (here ts).text ≠ wWhile ∧ (here ts).text ≠ wLock ∧ (here ts).text ≠ wPrint ∧ (here ts).text ≠ wSkip) ∨ (here ts).kind ≠ 2) :
    stmtW e blk ts = assignP e (atT e ts) ts := by
  have key : ∀ s, (here ts).text ≠ s ∨ (here ts).kind ≠ 2 → ¬ formT (here ts) s = true := fun s h => by
    unfold formT
    rcases h with h | h <;> simp [h]
  rw [stmtW_eq, if_neg (key _ (h.imp (·.1) id)), if_neg (key _ (h.imp (·.2.1) id)), if_neg (key _ (h.imp (·.2.2.1) id)), if_neg (key _ (h.imp (·.2.2.2.1) id)), if_neg (key _ (h.imp (·.2.2.2.2) id))]
end Sx


namespace Go.Proofs.YtggnfanphcaamaaGreatDoor
open Go.RowKit Sx LexS ParS _root_.Go.Proofs.Tryz
theorem lvlO_bounds (op : Nat) : 0 ≤ lvlO (op : Int) ∧ lvlO (op : Int) ≤ 9 := by
 unfold lvlO
 split
 ·rename_i h
  have key : ∀ k : Nat, k < 19 → 0 ≤ lvl k ∧ lvl k ≤ 9 := by decide
  simp only [knownOp, decide_eq_true_eq] at h
  simpa using key op (by omega)
 ·omega
theorem lvlO_le (op : Nat) : lvlO (op : Int) ≤ 9 := (lvlO_bounds op).2
theorem lvlO_ge (op : Nat) : 0 ≤ lvlO (op : Int) := (lvlO_bounds op).1
/-- readers of operands, of expressions, along so many tokens -/
def UR (c : RCtx) (n : Nat) : Prop := ∀ (m d : Nat), d + m = 64 → ∀ (σ : RS), σ.r <:+ c.ts → (σ.ok → σ.r.length ≤ n) → ∀ (w : World), RCok c w → RAt c σ w → Ret Tryz.prog 93 [.pointer (some ⟨c.rb, 0, none⟩), .int .i64 (d : Int)] w (RRes c σ (unaryP c.e m) w (HE w))
def ER (c : RCtx) (n : Nat) : Prop := ∀ (m d : Nat), d + m = 64 → ∀ (lv : Int), 0 ≤ lv → lv ≤ 10 → ∀ (σ : RS), σ.r <:+ c.ts → (σ.ok → σ.r.length ≤ n) → ∀ (w : World), RCok c w → RAt c σ w → Ret Tryz.prog 82 [.pointer (some ⟨c.rb, 0, none⟩), .int .i64 lv, .int .i64 (d : Int)] w (RRes c σ (climbE (unaryP c.e m) lv) w (HE w))

set_option maxHeartbeats 1000000 in
theorem runary_of (c : RCtx) (n : Nat) (hU : ∀ k, k < n → UR c k) (hE : ∀ k, k < n → ER c k) : UR c n := by
 intro m d hd σ hr hn w hC hP
 refine ret_of [_, _] func93 rfl ntmps93 rfl ?_
 obtain ⟨w0, rfl⟩ : ∃ w0, w0 = w := ⟨_, rfl⟩
 have hP' := hP
 dsimp only [RAt, rcell] at hP
 have st := St.of1 [c.rb] hP
 have h20 := hC.len
 have hl := suf_len hr
 refine sr ?_
 refine vc_e (e_al (l := [_, _, _, _, _, _]) st rfl rfl zeroValue60 rfl ?_)
 intro b4 w hb4 st
 refine et (vk3 0 1 4 (sr ?_))
 refine ym ?_
 refine vc_e (e_call [_] rfl rfl call50 rfl (rhere_any c σ hr _ (hC.k1 st.chg) (by exact st.res (i := 1) rfl)) ?_)
 rintro _ w ⟨rfl, cw⟩
 replace st := st.call0 cw
 refine vc_e (e_al (l := [_, _, _, _]) st rfl rfl zeroValue82 rfl ?_)
 intro b5 w hb5 st
 refine vc_e (e_sts (vs := [_, _, _, _]) st 0 rfl rfl rfl rfl rfl sizeOf82 rfl rfl (by (right; assumption)) ?_)
 intro w st; dsimp only [setNth, wr] at st
 refine et (vk4 0 1 4 5 (vc_seq ?_))
 refine vc_cut (w0 := w0) (M := [c.rb]) (fun (b : Bool) => [(0, .pointer (some ⟨c.rb, 0, none⟩)), (1, .int .i64 (d : Int)), (4, .pointer (some ⟨b4, 0, none⟩)), (5, .pointer (some ⟨b5, 0, none⟩)), (24, .bool b)]) (fun _ => [.blk b5 (.cells (tkL (hereE c.e σ.r)).toArray 82 (0, 0)), .blk b4 (.cells ex00.toArray 60 (0, 0)), .blk c.rb (.cells (rcell c σ).toArray c.T (0, 0))]) (fun b _ => b = (innerT σ.r && decide (64 ≤ d))) ?_ ?_
 ·refine vc_region ?_
  refine ym ?_
  refine vc_e (e_call [_, _] rfl rfl call48 rfl (ris_any c [45] σ hr _ (hC.k1 st.chg) (by exact st.res (i := 2) rfl)) ?_)
  rintro _ w ⟨rfl, cw⟩
  replace st := st.call0 cw
  refine vmb ?_ ?_
  ·intro hg13
   try simp only [dn] at hg13
   iterate 2 refine vsk ?_
   refine ypt ?_
   refine ym ?_
   iterate 2 refine vsk ?_
   refine ypt ?_
   iterate 2 refine ym ?_
   refine vy (y_geq rfl rfl) ?_
   refine ypt ?_
   refine vc_end ?_
   refine vq_meet (decide ((64 : Int) ≤ (d : Int))) ⟨rfl, rfl, rfl, rfl, rfl, trivial⟩ st ?_
   ·show _ = _
    have hi : innerT σ.r = true := by unfold innerT; rw [hg13]; simp
    rw [hi, Bool.true_and, Bool.eq_iff_iff]; simp only [decide_eq_true_eq]; omega
  intro hg13
  try simp only [dn] at hg13
  refine ym ?_
  refine vc_e (e_call [_, _] rfl rfl call48 rfl (ris_any c [33] σ hr _ (hC.k1 st.chg) (by exact st.res (i := 2) rfl)) ?_)
  rintro _ w ⟨rfl, cw⟩
  replace st := st.call0 cw
  refine ypf ?_
  refine vmb ?_ ?_
  ·intro hg17
   try simp only [dn] at hg17
   iterate 2 refine vsk ?_
   refine ypt ?_
   iterate 2 refine ym ?_
   refine vy (y_geq rfl rfl) ?_
   refine ypt ?_
   refine vc_end ?_
   refine vq_meet (decide ((64 : Int) ≤ (d : Int))) ⟨rfl, rfl, rfl, rfl, rfl, trivial⟩ st ?_
   ·show _ = _
    have hi : innerT σ.r = true := by unfold innerT; rw [hg17]; simp
    rw [hi, Bool.true_and, Bool.eq_iff_iff]; simp only [decide_eq_true_eq]; omega
  intro hg17
  try simp only [dn] at hg17
  refine ym ?_
  refine vc_e (e_call [_, _] rfl rfl call48 rfl (ris_any c [40] σ hr _ (hC.k1 st.chg) (by exact st.res (i := 2) rfl)) ?_)
  rintro _ w ⟨rfl, cw⟩
  replace st := st.call0 cw
  refine ypf ?_
  refine vmb ?_ ?_
  ·intro hg21
   try simp only [dn] at hg21
   refine ym ?_
   refine vy (y_geq rfl rfl) ?_
   refine ypt ?_
   refine vc_end ?_
   refine vq_meet (decide ((64 : Int) ≤ (d : Int))) ⟨rfl, rfl, rfl, rfl, rfl, trivial⟩ st ?_
   ·show _ = _
    have hi : innerT σ.r = true := by unfold innerT; rw [hg21]; simp
    rw [hi, Bool.true_and, Bool.eq_iff_iff]; simp only [decide_eq_true_eq]; omega
  intro hg21
  try simp only [dn] at hg21
  iterate 2 refine vsk ?_
  refine ypf ?_
  refine vc_end ?_
  refine vq_meet false ⟨rfl, rfl, rfl, rfl, rfl, trivial⟩ st ?_
  ·show _ = _
   have hi : innerT σ.r = false := by unfold innerT; simp_all
   rw [hi]; rfl
 clear st
 rintro b w hb st
 refine vif ?_ ?_
 ·intro hc24
  try simp only [dn] at hc24
  have hb2 : (innerT σ.r && decide (64 ≤ d)) = true := by rw [← hb]; exact hc24
  simp only [Bool.and_eq_true, decide_eq_true_eq] at hb2
  obtain rfl : m = 0 := by omega
  refine vc_region ?_
  refine ym ?_
  refine vc_e (e_call [_, _] rfl rfl call51 rfl (rfail_any c 3 σ hr _ (hC.k1 st.chg) (by exact st.res (i := 2) rfl)) ?_)
  rintro _ w ⟨rfl, hP1, cw⟩
  replace st := St.prs (b := c.rb) st 2 rfl cw (.inl (.head _)) hP1
  dsimp only [setNth] at st
  refine et (vk4 0 1 4 5 (vc_seq (sr ?_)))
  refine ym ?_
  refine vc_e (e_call [_] rfl rfl call16 rfl (rok_any c (failR c.e 3 σ) (by rw [failR_r]; exact hr) _ (hC.k1 st.chg) (by exact st.res (i := 2) rfl)) ?_)
  rintro _ w ⟨rfl, cw⟩
  replace st := st.call0 cw
  refine vy (y_not rfl) ?_
  refine et (vk5 0 1 4 5 29 ?_)
  refine vif ?_ ?_
  ·intro hc29
   try simp only [dn] at hc29
   refine sr ?_
   refine vy (y_bld (.agg #[_, _, _, _, _, _]) [] rfl (fun w => by simp [Instr.build, go_sem] <;> repeat' constructor)) ?_
   refine vc_e (e_sts (vs := [_, _, _, _, _, _]) st 1 rfl rfl rfl rfl rfl sizeOf60 rfl rfl (by (right; assumption)) ?_)
   intro w st; dsimp only [setNth, wr] at st
   refine et (vk1 4 (vc_ret (vq_then_ret ?_)))
   refine vq_ret1 st (.inl rfl) results93 (by exact .cell 1 rfl rfl isAgg60 sizeOf60) ?_
   refine ⟨_, rfl, ?_⟩
   exact ⟨ex0, _, unary_deep hb2.1 ex0, by rw [failR_r]; exact List.suffix_refl _, (by exact st.res (i := 2) rfl), st.chg, none, 0, [], rfl, exr_nil, Nw.nil⟩
  intro hc29
  exfalso; have := failR_not (e := c.e) (k := 3) (σ := σ) (by decide); simp [this] at hc29
 intro hc24
 try simp only [dn] at hc24
 have hb : (innerT σ.r && decide (64 ≤ d)) = false := by rw [← hb]; exact hc24
 refine kt (vk4 0 1 4 5 (vc_seq (sr ?_)))
 refine ym ?_
 refine vc_e (e_call [_] rfl rfl call16 rfl (rok_any c σ hr _ (hC.k1 st.chg) (by exact st.res (i := 2) rfl)) ?_)
 rintro _ w ⟨rfl, cw⟩
 replace st := st.call0 cw
 refine vy (y_not rfl) ?_
 refine et (vk5 0 1 4 5 29 ?_)
 refine vif ?_ ?_
 ·intro hc29
  try simp only [dn] at hc29
  have ho : ¬ σ.ok := by simpa using hc29
  refine sr ?_
  refine vy (y_bld (.agg #[_, _, _, _, _, _]) [] rfl (fun w => by simp [Instr.build, go_sem] <;> repeat' constructor)) ?_
  refine vc_e (e_sts (vs := [_, _, _, _, _, _]) st 1 rfl rfl rfl rfl rfl sizeOf60 rfl rfl (by (right; assumption)) ?_)
  intro w st; dsimp only [setNth, wr] at st
  refine et (vk1 4 (vc_ret (vq_then_ret ?_)))
  refine vq_ret1 st (.inl rfl) results93 (by exact .cell 1 rfl rfl isAgg60 sizeOf60) ?_
  refine ⟨_, rfl, ?_⟩
  exact ⟨ex0, σ, .bad ho ex0, List.suffix_refl _, (by exact st.res (i := 2) rfl), st.chg, none, 0, [], rfl, exr_nil, Nw.nil⟩
 intro hc29
 try simp only [dn] at hc29
 have ho : σ.ok := by simpa using hc29
 refine kt (vk4 0 1 4 5 (vc_seq (vc_block (sr ?_))))
 refine vy (y_fa0 rfl underlying82 rfl rfl sizeOf80 rfl) ?_
 refine yl st 0 isAgg80 ?_
 refine vy (y_eqi rfl rfl) ?_
 refine ya ?_
 refine et (vk5 0 1 4 5 31 ?_)
 refine vif ?_ ?_
 ·intro hc31
  try simp only [dn] at hc31
  have hk : (here σ.r).kind = 3 := by rw [hereE_kind] at hc31; omega
  have hne := kind_ne hk (by decide)
  have htl := tail_lt hne
  have ht2 : σ.r.tail.length = σ.r.length - 1 := List.length_tail
  refine sr ?_
  refine ym ?_
  refine ynk ?_
  refine yfz 1 underlying47 sizeOf3 ?_
  refine yl st 2 isAgg3 ?_
  refine vy (y_add rfl rfl (by omega : _ = ((c.ts.length - σ.r.tail.length : Nat) : Int)) (by omega) (by omega)) ?_
  refine ynk ?_
  refine yfz 1 underlying47 sizeOf3 ?_
  refine vc_e (e_st st 2 rfl rfl rfl rfl sizeOf3 rfl rfl (by (left; simp)) ?_)
  intro w st; dsimp only [setNth, wr] at st
  refine et (vk2 4 5 (sr ?_))
  refine yfz 2 underlying82 sizeOf2 ?_
  refine yl st 0 isAgg2 ?_
  refine yfz 3 underlying82 sizeOf3 ?_
  refine yl st 0 isAgg3 ?_
  refine vy (y_bld (.agg #[_, _, _, _, _, _]) [(0, _), (2, _), (5, _)] rfl (fun w => by simp [Instr.build, go_sem] <;> repeat' constructor)) ?_
  refine vc_e (e_sts (vs := [_, _, _, _, _, _]) st 1 rfl rfl rfl rfl rfl sizeOf60 rfl rfl (by (right; assumption)) ?_)
  intro w st; dsimp only [setNth, wr] at st
  refine et (vk1 4 (vc_ret (vq_block_ret (vq_then_ret ?_))))
  refine vq_ret1 st (.inl rfl) results93 (by exact .cell 1 rfl rfl isAgg60 sizeOf60) ?_
  refine ⟨_, rfl, ?_⟩
  refine ⟨_, ⟨σ.r.tail, σ.f⟩, unary_num ho hk, List.tail_suffix _, (by exact st.res (i := 2) rfl), st.chg, none, 0, [], ?_, exr_nil, Nw.nil⟩
  rw [hereE_cons hne]; rfl
 intro hc31
 try simp only [dn] at hc31
 have hk3 : (here σ.r).kind ≠ 3 := by rw [hereE_kind] at hc31; omega
 refine sr ?_
 refine vy (y_fa0 rfl underlying82 rfl rfl sizeOf80 rfl) ?_
 refine yl st 0 isAgg80 ?_
 refine vy (y_eqi rfl rfl) ?_
 refine ya ?_
 refine et (vk5 0 1 4 5 47 ?_)
 refine vif ?_ ?_
 ·intro hc47
  try simp only [dn] at hc47
  have hk : (here σ.r).kind = 1 := by rw [hereE_kind] at hc47; omega
  have hne := kind_ne hk (by decide)
  have htl := tail_lt hne
  have ht2 : σ.r.tail.length = σ.r.length - 1 := List.length_tail
  refine sr ?_
  refine ym ?_
  refine ynk ?_
  refine yfz 1 underlying47 sizeOf3 ?_
  refine yl st 2 isAgg3 ?_
  refine vy (y_add rfl rfl (by omega : _ = ((c.ts.length - σ.r.tail.length : Nat) : Int)) (by omega) (by omega)) ?_
  refine ynk ?_
  refine yfz 1 underlying47 sizeOf3 ?_
  refine vc_e (e_st st 2 rfl rfl rfl rfl sizeOf3 rfl rfl (by (left; simp)) ?_)
  intro w st; dsimp only [setNth, wr] at st
  refine et (vk2 4 5 (sr ?_))
  refine yfz 1 underlying82 sizeOf9 ?_
  refine yl st 0 isAgg9 ?_
  refine yfz 3 underlying82 sizeOf3 ?_
  refine yl st 0 isAgg3 ?_
  refine vy (y_bld (.agg #[_, _, _, _, _, _]) [(0, _), (3, _), (5, _)] rfl (fun w => by simp [Instr.build, go_sem] <;> repeat' constructor)) ?_
  refine vc_e (e_sts (vs := [_, _, _, _, _, _]) st 1 rfl rfl rfl rfl rfl sizeOf60 rfl rfl (by (right; assumption)) ?_)
  intro w st; dsimp only [setNth, wr] at st
  refine et (vk1 4 (vc_ret (vq_block_ret (vq_then_ret ?_))))
  refine vq_ret1 st (.inl rfl) results93 (by exact .cell 1 rfl rfl isAgg60 sizeOf60) ?_
  refine ⟨_, rfl, ?_⟩
  refine ⟨_, ⟨σ.r.tail, σ.f⟩, unary_name ho hk, List.tail_suffix _, (by exact st.res (i := 2) rfl), st.chg, none, 0, [], ?_, exr_nil, Nw.nil⟩
  rw [hereE_cons hne]; rfl
 intro hc47
 try simp only [dn] at hc47
 have hk1 : (here σ.r).kind ≠ 1 := by rw [hereE_kind] at hc47; omega
 refine sr ?_
 refine ym ?_
 refine vc_e (e_call [_, _] rfl rfl call31 rfl (rtake_any c [40] σ hr _ (hC.k1 st.chg) (by exact st.res (i := 2) rfl)) ?_)
 rintro _ w ⟨rfl, hP1, cw⟩
 replace st := St.prs (b := c.rb) st 2 rfl cw (.inl (.head _)) hP1
 dsimp only [setNth] at st
 refine ya ?_
 refine et (vk5 0 1 4 5 63 ?_)
 refine vif ?_ ?_
 ·intro hc63
  try simp only [dn] at hc63
  have hT : takeB [40] σ = true := hc63
  have hti := (takeB_pos hT).2
  have hne := isT_ne hti
  have htl := tail_lt hne
  have hin : innerT σ.r = true := by unfold innerT; rw [hti]; simp
  have hm : ¬ 64 ≤ d := fun h => by rw [hin] at hb; simp [h] at hb
  obtain ⟨m, rfl⟩ : ∃ k, m = k + 1 := ⟨m - 1, by omega⟩
  have hlen := hn ho
  rw [takeR_pos hT] at st
  have hrt : (RS.mk σ.r.tail σ.f).r <:+ c.ts := (List.tail_suffix _).trans hr
  refine sr ?_
  iterate 2 refine ym ?_
  refine vy (y_add rfl rfl (by omega : _ = ((d + 1 : Nat) : Int)) (by omega) (by omega)) ?_
  refine vc_e (e_call [_, _, _] rfl rfl call82 rfl (hE σ.r.tail.length (by omega) m (d + 1) (by omega) 1 (by omega) (by omega) ⟨σ.r.tail, σ.f⟩ hrt (fun _ => Nat.le_refl _) _ (hC.k1 st.chg) (by exact st.res (i := 2) rfl)) ?_)
  rintro _ w ⟨x, σ2, hD, hsf, hP1, cw, ox, cx, Sx, rfl, hQ, hN⟩
  have hNSx := hN.le st.chg.size
  replace st := St.prsT (b := c.rb) st 2 rfl cw (.inl (.head _)) hP1 (holds_ex hQ) hN.2
  dsimp only [setNth] at st
  refine vc_e (e_al (l := [_, _, _, _, _, _]) st rfl rfl zeroValue60 rfl ?_)
  intro b6 w hb6 st
  refine vc_e (e_sts (vs := [_, _, _, _, _, _]) st 0 rfl rfl rfl rfl rfl sizeOf60 rfl rfl (by (right; assumption)) ?_)
  intro w st; dsimp only [setNth, wr] at st
  refine et (vk3 0 4 6 (sr ?_))
  refine ym ?_
  refine vc_e (e_call [_, _] rfl rfl call52 rfl (rwant_any c [41] σ2 (hsf.trans hrt) _ (hC.k1 st.chg) (by exact st.res (i := 4) rfl)) ?_)
  rintro _ w ⟨rfl, hP1, cw⟩
  replace st := St.prs (b := c.rb) st 4 rfl cw (.inl (.head _)) hP1
  dsimp only [setNth] at st
  refine et (vk2 4 6 (sr ?_))
  refine yla st 0 [_, _, _, _, _, _] isAgg60 sizeOf60 ?_
  refine vc_e (e_sts (vs := [_, _, _, _, _, _]) st 3 rfl rfl rfl rfl rfl sizeOf60 rfl rfl (by (right; assumption)) ?_)
  intro w st; dsimp only [setNth, wr] at st
  refine et (vk1 4 (vc_ret (vq_block_ret (vq_then_ret ?_))))
  refine vq_ret1 st (.inl rfl) results93 (by exact .cell 3 rfl rfl isAgg60 sizeOf60) ?_
  refine ⟨_, rfl, ?_⟩
  exact ⟨x, wantR c.e [41] σ2, unary_par hT hD, wantR_suf.trans (hsf.trans (List.tail_suffix _)), (by exact st.res (i := 4) rfl), st.chg, ox, cx, Sx, rfl, (by exact (st.res (i := 1) rfl).1), hNSx⟩
 intro hc63
 try simp only [dn] at hc63
 have hF40 : takeB [40] σ = false := hc63
 rw [takeR_neg hF40] at st
 refine sr ?_
 refine ym ?_
 refine vc_e (e_call [_, _] rfl rfl call31 rfl (rtake_any c [45] σ hr _ (hC.k1 st.chg) (by exact st.res (i := 2) rfl)) ?_)
 rintro _ w ⟨rfl, hP1, cw⟩
 replace st := St.prs (b := c.rb) st 2 rfl cw (.inl (.head _)) hP1
 dsimp only [setNth] at st
 refine ya ?_
 refine et (vk5 0 1 4 5 73 ?_)
 refine vif ?_ ?_
 ·intro hc73
  try simp only [dn] at hc73
  have hT : takeB [45] σ = true := hc73
  have hti := (takeB_pos hT).2
  have hne := isT_ne hti
  have htl := tail_lt hne
  have hin : innerT σ.r = true := by unfold innerT; rw [hti]; simp
  have hm : ¬ 64 ≤ d := fun h => by rw [hin] at hb; simp [h] at hb
  obtain ⟨m, rfl⟩ : ∃ k, m = k + 1 := ⟨m - 1, by omega⟩
  have hlen := hn ho
  rw [takeR_pos hT] at st
  have hrt : (RS.mk σ.r.tail σ.f).r <:+ c.ts := (List.tail_suffix _).trans hr
  refine sr ?_
  iterate 2 refine ym ?_
  refine vy (y_add rfl rfl (by omega : _ = ((d + 1 : Nat) : Int)) (by omega) (by omega)) ?_
  refine vc_e (e_call [_, _] rfl rfl call93 rfl (hU σ.r.tail.length (by omega) m (d + 1) (by omega) ⟨σ.r.tail, σ.f⟩ hrt (fun _ => Nat.le_refl _) _ (hC.k1 st.chg) (by exact st.res (i := 2) rfl)) ?_)
  rintro _ w ⟨x, σ2, hD, hsf, hP1, cw, ox, cx, Sx, rfl, hQ, hN⟩
  have hNSx := hN.le st.chg.size
  replace st := St.prsT (b := c.rb) st 2 rfl cw (.inl (.head _)) hP1 (holds_ex hQ) hN.2
  dsimp only [setNth] at st
  refine vc_e (e_al (l := [_, _, _, _, _, _]) st rfl rfl zeroValue60 rfl ?_)
  intro b7 w hb7 st
  refine vc_e (e_sts (vs := [_, _, _, _, _, _]) st 0 rfl rfl rfl rfl rfl sizeOf60 rfl rfl (by (right; assumption)) ?_)
  intro w st; dsimp only [setNth, wr] at st
  refine et (vk3 4 5 7 (sr ?_))
  refine yla st 0 [_, _, _, _, _, _] isAgg60 sizeOf60 ?_
  refine vc_e (e_bs1 (l := [_, _, _, _, _, _]) st rfl rfl rfl rfl underlying54 sizeOf60 rfl rfl rfl zeroValue60 ?_)
  intro b81 w hb81 st
  refine yfz 3 underlying82 sizeOf3 ?_
  refine yl st 3 isAgg3 ?_
  refine vy (y_bld (.agg #[_, _, _, _, _, _]) [(0, _), (1, _), (4, _), (5, _)] rfl (fun w => by simp [Instr.build, go_sem] <;> repeat' constructor)) ?_
  refine vc_e (e_sts (vs := [_, _, _, _, _, _]) st 4 rfl rfl rfl rfl rfl sizeOf60 rfl rfl (by (right; assumption)) ?_)
  intro w st; dsimp only [setNth, wr] at st
  refine et (vk1 4 (vc_ret (vq_block_ret (vq_then_ret ?_))))
  refine vq_ret1 st (.inl rfl) results93 (by exact .cell 4 rfl rfl isAgg60 sizeOf60) ?_
  refine ⟨_, rfl, ?_⟩
  refine ⟨_, σ2, unary_sign (.inl ⟨rfl, rfl⟩) hT hD, hsf.trans (List.tail_suffix _), (by exact st.res (i := 5) rfl), st.chg, some ⟨b81, 0, none⟩, 1, b81 :: Sx, ?_, ex_one (st.res (i := 0) rfl) (by exact (st.res (i := 2) rfl).1), Nw.app (S := [b81]) ⟨by simp, by simpa using hb81⟩ hNSx (fun b hb hb' => (by exact st.ne (i := 0) (j := 2) (by decide) rfl rfl b hb hb'))⟩
  rw [hereE_cons hne]; rfl
 intro hc73
 try simp only [dn] at hc73
 have hF45 : takeB [45] σ = false := hc73
 rw [takeR_neg hF45] at st
 refine sr ?_
 refine ym ?_
 refine vc_e (e_call [_, _] rfl rfl call31 rfl (rtake_any c [33] σ hr _ (hC.k1 st.chg) (by exact st.res (i := 2) rfl)) ?_)
 rintro _ w ⟨rfl, hP1, cw⟩
 replace st := St.prs (b := c.rb) st 2 rfl cw (.inl (.head _)) hP1
 dsimp only [setNth] at st
 refine ya ?_
 refine et (vk5 0 1 4 5 85 ?_)
 refine vif ?_ ?_
 ·intro hc85
  try simp only [dn] at hc85
  have hT : takeB [33] σ = true := hc85
  have hti := (takeB_pos hT).2
  have hne := isT_ne hti
  have htl := tail_lt hne
  have hin : innerT σ.r = true := by unfold innerT; rw [hti]; simp
  have hm : ¬ 64 ≤ d := fun h => by rw [hin] at hb; simp [h] at hb
  obtain ⟨m, rfl⟩ : ∃ k, m = k + 1 := ⟨m - 1, by omega⟩
  have hlen := hn ho
  rw [takeR_pos hT] at st
  have hrt : (RS.mk σ.r.tail σ.f).r <:+ c.ts := (List.tail_suffix _).trans hr
  refine sr ?_
  iterate 2 refine ym ?_
  refine vy (y_add rfl rfl (by omega : _ = ((d + 1 : Nat) : Int)) (by omega) (by omega)) ?_
  refine vc_e (e_call [_, _] rfl rfl call93 rfl (hU σ.r.tail.length (by omega) m (d + 1) (by omega) ⟨σ.r.tail, σ.f⟩ hrt (fun _ => Nat.le_refl _) _ (hC.k1 st.chg) (by exact st.res (i := 2) rfl)) ?_)
  rintro _ w ⟨x, σ2, hD, hsf, hP1, cw, ox, cx, Sx, rfl, hQ, hN⟩
  have hNSx := hN.le st.chg.size
  replace st := St.prsT (b := c.rb) st 2 rfl cw (.inl (.head _)) hP1 (holds_ex hQ) hN.2
  dsimp only [setNth] at st
  refine vc_e (e_al (l := [_, _, _, _, _, _]) st rfl rfl zeroValue60 rfl ?_)
  intro b8 w hb8 st
  refine vc_e (e_sts (vs := [_, _, _, _, _, _]) st 0 rfl rfl rfl rfl rfl sizeOf60 rfl rfl (by (right; assumption)) ?_)
  intro w st; dsimp only [setNth, wr] at st
  refine et (vk3 4 5 8 (sr ?_))
  refine yla st 0 [_, _, _, _, _, _] isAgg60 sizeOf60 ?_
  refine vc_e (e_bs1 (l := [_, _, _, _, _, _]) st rfl rfl rfl rfl underlying54 sizeOf60 rfl rfl rfl zeroValue60 ?_)
  intro b93 w hb93 st
  refine yfz 3 underlying82 sizeOf3 ?_
  refine yl st 3 isAgg3 ?_
  refine vy (y_bld (.agg #[_, _, _, _, _, _]) [(0, _), (1, _), (4, _), (5, _)] rfl (fun w => by simp [Instr.build, go_sem] <;> repeat' constructor)) ?_
  refine vc_e (e_sts (vs := [_, _, _, _, _, _]) st 4 rfl rfl rfl rfl rfl sizeOf60 rfl rfl (by (right; assumption)) ?_)
  intro w st; dsimp only [setNth, wr] at st
  refine et (vk1 4 (vc_ret (vq_block_ret (vq_then_ret ?_))))
  refine vq_ret1 st (.inl rfl) results93 (by exact .cell 4 rfl rfl isAgg60 sizeOf60) ?_
  refine ⟨_, rfl, ?_⟩
  refine ⟨_, σ2, unary_sign (.inr ⟨rfl, rfl⟩) hT hD, hsf.trans (List.tail_suffix _), (by exact st.res (i := 5) rfl), st.chg, some ⟨b93, 0, none⟩, 1, b93 :: Sx, ?_, ex_one (st.res (i := 0) rfl) (by exact (st.res (i := 2) rfl).1), Nw.app (S := [b93]) ⟨by simp, by simpa using hb93⟩ hNSx (fun b hb hb' => (by exact st.ne (i := 0) (j := 2) (by decide) rfl rfl b hb hb'))⟩
  rw [hereE_cons hne]; rfl
 intro hc85
 try simp only [dn] at hc85
 have hF33 : takeB [33] σ = false := hc85
 rw [takeR_neg hF33] at st
 have hin : innerT σ.r = false := by unfold innerT; rw [← takeB_ok ho, ← takeB_ok ho, ← takeB_ok ho, hF40, hF45, hF33]; rfl
 refine vc_code_skip (vq_block (vq_then (vk2 0 4 (sr ?_))))
 refine ym ?_
 refine vc_e (e_call [_, _] rfl rfl call51 rfl (rfail_any c 2 σ hr _ (hC.k1 st.chg) (by exact st.res (i := 2) rfl)) ?_)
 rintro _ w ⟨rfl, hP1, cw⟩
 replace st := St.prs (b := c.rb) st 2 rfl cw (.inl (.head _)) hP1
 dsimp only [setNth] at st
 refine et (vk1 4 (sr ?_))
 refine vy (y_bld (.agg #[_, _, _, _, _, _]) [] rfl (fun w => by simp [Instr.build, go_sem] <;> repeat' constructor)) ?_
 refine vc_e (e_sts (vs := [_, _, _, _, _, _]) st 1 rfl rfl rfl rfl rfl sizeOf60 rfl rfl (by (right; assumption)) ?_)
 intro w st; dsimp only [setNth, wr] at st
 refine et (vk1 4 (vc_ret ?_))
 refine vq_ret1 st (.inl rfl) results93 (by exact .cell 1 rfl rfl isAgg60 sizeOf60) ?_
 refine ⟨_, rfl, ?_⟩
 exact ⟨ex0, failR c.e 2 σ, unary_none hin hk3 hk1 ex0, by rw [failR_r]; exact List.suffix_refl _, (by exact st.res (i := 2) rfl), st.chg, none, 0, [], rfl, exr_nil, Nw.nil⟩
set_option maxHeartbeats 1000000 in
theorem rexpr_of (c : RCtx) (n : Nat) (hU : UR c n) (hE : ∀ k, k < n → ER c k) : ER c n := by
 intro m d hd lv hlv0 hlv1 σ hr hn w hC hP
 refine ret_of [_, _, _] func82 rfl ntmps82 rfl ?_
 obtain ⟨w0, rfl⟩ : ∃ w0, w0 = w := ⟨_, rfl⟩
 have hP' := hP
 dsimp only [RAt, rcell] at hP
 have st := St.of1 [c.rb] hP
 have h20 := hC.len
 have hl := suf_len hr
 refine sr ?_
 refine vc_e (e_al (l := [_, _, _, _, _, _]) st rfl rfl zeroValue60 rfl ?_)
 intro b6 w hb6 st
 refine et (vk4 0 1 2 6 (sr ?_))
 iterate 2 refine ym ?_
 refine vc_e (e_call [_, _] rfl rfl call93 rfl (hU m d hd σ hr hn _ (hC.k1 st.chg) (by exact st.res (i := 1) rfl)) ?_)
 rintro _ w ⟨x0, σ0, hD, hsf, hP1, cw, ox0, cx0, Sx0, rfl, hQ, hN⟩
 have hNSx0 := hN.le st.chg.size
 replace st := St.prsT (b := c.rb) st 1 rfl cw (.inl (.head _)) hP1 (holds_ex hQ) hN.2
 dsimp only [setNth] at st
 have hlen0 : σ0.ok → σ0.r.length < σ.r.length := fun ho => by
  obtain ⟨a1, a2⟩ := hD.ok_inv ho
  exact unary_goes _ _ _ _ _ a2
 have hok0 : σ0.ok → σ.ok := fun ho => (hD.ok_inv ho).1
 have hG0 := climb_start (lv := lv) hD
 refine vc_e (e_al (l := [_, _, _, _, _, _]) st rfl rfl zeroValue60 rfl ?_)
 intro b7 w hb7 st
 refine vc_e (e_sts (vs := [_, _, _, _, _, _]) st 0 rfl rfl rfl rfl rfl sizeOf60 rfl rfl (by (right; assumption)) ?_)
 intro w st; dsimp only [setNth, wr] at st
 refine et (vk5 0 1 2 6 7 (vc_seq (vc_block ?_)))
 refine vc_loop (w0 := w0) (M := [c.rb]) (fun (y : RSt) => [(0, .pointer (some ⟨c.rb, 0, none⟩)), (1, .int .i64 lv), (2, .int .i64 (d : Int)), (6, .pointer (some ⟨b6, 0, none⟩)), (7, .pointer (some ⟨b7, 0, none⟩))]) (fun (y : RSt) => [.blk b7 (.cells (exC y.x y.ox y.cx).toArray 60 (0, 0)), .tree y.Sx (fun w => ExR 60 w y.ox y.cx y.x.kids y.Sx), .blk b6 (.cells ex00.toArray 60 (0, 0)), .blk c.rb (.cells (rcell c y.σ).toArray c.T (0, 0))]) (fun (y : RSt) _ => y.σ.r <:+ σ.r ∧ (y.σ.ok → y.σ.r.length < n) ∧ y.σ.r.length < y.k ∧ Nw w0.heap.size y.Sx ∧ run (climbE (unaryP c.e m) lv) σ = run (loopE (unaryP c.e m) y.k lv y.x) y.σ) (fun (y : RSt) => y.σ.r.length) ⟨x0, σ0, σ0.r.length + 1, ox0, cx0, Sx0⟩ ⟨rfl, rfl, rfl, rfl, rfl, trivial⟩ (st.pick [0, 1, 2, 3] rfl (by decide)) ⟨hsf, fun ho => by have := hlen0 ho; have := hn (hok0 ho); dsimp only; omega, by dsimp only; omega, hNSx0, hG0⟩ ?_
 clear st hD hG0 hlen0 hok0 hsf hP1
 rintro ⟨x, σ1, k, ox, cx, Sx⟩ w ⟨hsf1, hlt1, hk1, hSx, hG⟩ st
 dsimp only at hsf1 hlt1 hk1 hSx hG st
 have hr1 := hsf1.trans hr
 obtain ⟨k, rfl⟩ : ∃ j, k = j + 1 := ⟨k - 1, by omega⟩
 refine vc_seq (sr ?_)
 refine ym ?_
 refine vc_e (e_call [_] rfl rfl call16 rfl (rok_any c σ1 hr1 _ (hC.k1 st.chg) (by exact st.res (i := 3) rfl)) ?_)
 rintro _ w ⟨rfl, cw⟩
 replace st := st.call0 cw
 refine et (vk6 0 1 2 6 7 16 ?_)
 refine vif ?_ ?_
 ·intro hc16
  try simp only [dn] at hc16
  have ho : σ1.ok := by simpa using hc16
  have hl1 := suf_len hr1
  refine kt (vk5 0 1 2 6 7 (vc_block (sr ?_)))
  refine ym ?_
  refine vc_e (e_call [_] rfl rfl call50 rfl (rhere_any c σ1 hr1 _ (hC.k1 st.chg) (by exact st.res (i := 3) rfl)) ?_)
  rintro _ w ⟨rfl, cw⟩
  replace st := st.call0 cw
  refine vc_e (e_al (l := [_, _, _, _]) st rfl rfl zeroValue82 rfl ?_)
  intro b8 w hb8 st
  refine vc_e (e_sts (vs := [_, _, _, _]) st 0 rfl rfl rfl rfl rfl sizeOf82 rfl rfl (by (right; assumption)) ?_)
  intro w st; dsimp only [setNth, wr] at st
  refine et (vk6 0 1 2 6 7 8 (sr ?_))
  refine yfz 1 underlying82 sizeOf9 ?_
  refine yl st 0 isAgg9 ?_
  refine vc_e (e_call [_] rfl rfl call94 rfl (rfind_any (hereE c.e σ1.r).text _) ?_)
  rintro _ w ⟨rfl, cw⟩
  replace st := st.call0 cw
  refine ym ?_
  iterate 2 refine vy (y_ext rfl rfl) ?_
  iterate 2 refine ya ?_
  refine et (vk8 0 1 2 6 7 8 9 10 (vc_seq (sr ?_)))
  refine vy (y_fa0 rfl underlying82 rfl rfl sizeOf80 rfl) ?_
  refine yl st 0 isAgg80 ?_
  refine vy (y_nei rfl rfl) ?_
  refine vmb ?_ ?_
  ·intro hg28
   try simp only [dn] at hg28
   iterate 2 refine vsk ?_
   refine ypt ?_
   refine ym ?_
   iterate 4 refine vsk ?_
   refine ypt ?_
   refine et (vk8 0 1 2 6 7 8 9 37 ?_)
   refine vc_ift rfl ?_
   refine vc_exit (vq_then_exit (vq_block_other rfl (vq_then_exit (vq_block_exit (vq_then (vk2 6 7 (sr ?_)))))))
   refine yla st 1 [_, _, _, _, _, _] isAgg60 sizeOf60 ?_
   refine vc_e (e_sts (vs := [_, _, _, _, _, _]) st 3 rfl rfl rfl rfl rfl sizeOf60 rfl rfl (by (right; assumption)) ?_)
   intro w st; dsimp only [setNth, wr] at st
   refine et (vk1 6 (vc_ret ?_))
   refine vq_ret1 st (.inl rfl) results82 (by exact .cell 3 rfl rfl isAgg60 sizeOf60) ?_
   refine ⟨_, rfl, ?_⟩
   refine ⟨x, σ1, ?_, hsf1, (by exact st.res (i := 4) rfl), st.chg, ox, cx, Sx, rfl, (by exact (st.res (i := 2) rfl).1), hSx⟩
   rw [hG]
   refine loop_end fun o hop => ?_
   rw [hereE_text, hereE_kind] at *
   unfold opT at hop
   split at hop
   ·rename_i hk4; exact absurd hk4 (by omega)
   ·cases hop
  intro hg28
  try simp only [dn] at hg28
  refine ym ?_
  refine vy (y_not rfl) ?_
  refine ypf ?_
  refine vmb ?_ ?_
  ·intro hg32
   try simp only [dn] at hg32
   iterate 4 refine vsk ?_
   refine ypt ?_
   refine et (vk8 0 1 2 6 7 8 9 37 ?_)
   refine vc_ift rfl ?_
   refine vc_exit (vq_then_exit (vq_block_other rfl (vq_then_exit (vq_block_exit (vq_then (vk2 6 7 (sr ?_)))))))
   refine yla st 1 [_, _, _, _, _, _] isAgg60 sizeOf60 ?_
   refine vc_e (e_sts (vs := [_, _, _, _, _, _]) st 3 rfl rfl rfl rfl rfl sizeOf60 rfl rfl (by (right; assumption)) ?_)
   intro w st; dsimp only [setNth, wr] at st
   refine et (vk1 6 (vc_ret ?_))
   refine vq_ret1 st (.inl rfl) results82 (by exact .cell 3 rfl rfl isAgg60 sizeOf60) ?_
   refine ⟨_, rfl, ?_⟩
   refine ⟨x, σ1, ?_, hsf1, (by exact st.res (i := 4) rfl), st.chg, ox, cx, Sx, rfl, (by exact (st.res (i := 2) rfl).1), hSx⟩
   rw [hG]
   refine loop_end fun o hop => ?_
   rw [hereE_text, hereE_kind] at *
   unfold opT at hop
   split at hop
   ·rw [hop] at hg32; cases hg32
   ·cases hop
  intro hg32
  try simp only [dn] at hg32
  refine ym ?_
  refine vc_e (e_call [_] rfl rfl call95 rfl (rlevel_any (((findO (hereE c.e σ1.r).text).getD 0) : Nat) (by omega) _) ?_)
  rintro _ w ⟨rfl, cw⟩
  replace st := st.call0 cw
  have hl9 := lvlO_le ((findO (hereE c.e σ1.r).text).getD 0)
  have hl0 := lvlO_ge ((findO (hereE c.e σ1.r).text).getD 0)
  refine ym ?_
  refine vy (y_lss rfl rfl) ?_
  refine ypf ?_
  refine et (vk8 0 1 2 6 7 8 9 37 ?_)
  refine vif ?_ ?_
  ·intro hc37
   try simp only [dn] at hc37
   refine vc_exit (vq_then_exit (vq_block_other rfl (vq_then_exit (vq_block_exit (vq_then (vk2 6 7 (sr ?_)))))))
   refine yla st 1 [_, _, _, _, _, _] isAgg60 sizeOf60 ?_
   refine vc_e (e_sts (vs := [_, _, _, _, _, _]) st 3 rfl rfl rfl rfl rfl sizeOf60 rfl rfl (by (right; assumption)) ?_)
   intro w st; dsimp only [setNth, wr] at st
   refine et (vk1 6 (vc_ret ?_))
   refine vq_ret1 st (.inl rfl) results82 (by exact .cell 3 rfl rfl isAgg60 sizeOf60) ?_
   refine ⟨_, rfl, ?_⟩
   refine ⟨x, σ1, ?_, hsf1, (by exact st.res (i := 4) rfl), st.chg, ox, cx, Sx, rfl, (by exact (st.res (i := 2) rfl).1), hSx⟩
   rw [hG]
   refine loop_end fun o hop => ?_
   rw [hereE_text, hereE_kind] at *
   unfold opT at hop
   split at hop
   ·rw [hop] at hc37; exact hc37
   ·cases hop
  intro hc37
  try simp only [dn] at hc37
  have hop : opT (here σ1.r) = some ((findO (hereE c.e σ1.r).text).getD 0) := by
   have hk4 : (here σ1.r).kind = 4 := by rw [hereE_kind] at *; omega
   unfold opT
   rw [if_pos hk4]
   cases hf : findO (here σ1.r).text with
   | none => rw [hereE_text] at *; simp [hf] at *
   | some o => rw [hereE_text, hf]; rfl
  have hne1 := opT_ne hop
  have htl1 := tail_lt hne1
  have ht2 : σ1.r.tail.length = σ1.r.length - 1 := List.length_tail
  have hlvl : lv ≤ lvlO (((findO (hereE c.e σ1.r).text).getD 0) : Nat) := by omega
  refine kt (vk7 0 1 2 6 7 8 9 (sr ?_))
  refine ym ?_
  refine ynk ?_
  refine yfz 1 underlying47 sizeOf3 ?_
  refine yl st 4 isAgg3 ?_
  refine vy (y_add rfl rfl (by omega : _ = ((c.ts.length - σ1.r.tail.length : Nat) : Int)) (by omega) (by omega)) ?_
  refine ynk ?_
  refine yfz 1 underlying47 sizeOf3 ?_
  refine vc_e (e_st st 4 rfl rfl rfl rfl sizeOf3 rfl rfl (by (left; simp)) ?_)
  intro w st; dsimp only [setNth, wr] at st
  refine et (vk7 0 1 2 6 7 8 9 (sr ?_))
  iterate 2 refine ym ?_
  refine vc_e (e_call [_] rfl rfl call95 rfl (rlevel_any (((findO (hereE c.e σ1.r).text).getD 0) : Nat) (by omega) _) ?_)
  rintro _ w ⟨rfl, cw⟩
  replace st := st.call0 cw
  have hl9 := lvlO_le ((findO (hereE c.e σ1.r).text).getD 0)
  have hl0 := lvlO_ge ((findO (hereE c.e σ1.r).text).getD 0)
  refine vy (y_add rfl rfl rfl (by omega) (by omega)) ?_
  refine ym ?_
  refine vc_e (e_call [_, _, _] rfl rfl call82 rfl (hE σ1.r.length (hlt1 ho) m d hd (lvlO (((findO (hereE c.e σ1.r).text).getD 0) : Nat) + 1) (by omega) (by omega) ⟨σ1.r.tail, σ1.f⟩ ((List.tail_suffix _).trans hr1) (fun _ => by dsimp only; omega) _ (hC.k1 st.chg) (by exact st.res (i := 4) rfl)) ?_)
  rintro _ w ⟨z, σ2, hD, hsf, hP1, cw, oz, cz, Sz, rfl, hQ, hN⟩
  have hNSz := hN.le st.chg.size
  replace st := St.prsT (b := c.rb) st 4 rfl cw (.inl (.head _)) hP1 (holds_ex hQ) hN.2
  dsimp only [setNth] at st
  refine vc_e (e_al (l := [_, _, _, _, _, _]) st rfl rfl zeroValue60 rfl ?_)
  intro b11 w hb11 st
  refine vc_e (e_sts (vs := [_, _, _, _, _, _]) st 0 rfl rfl rfl rfl rfl sizeOf60 rfl rfl (by (right; assumption)) ?_)
  intro w st; dsimp only [setNth, wr] at st
  refine et (vk8 0 1 2 6 7 8 9 11 (vc_region ?_))
  refine ym ?_
  refine yla st 3 [_, _, _, _, _, _] isAgg60 sizeOf60 ?_
  refine yla st 0 [_, _, _, _, _, _] isAgg60 sizeOf60 ?_
  refine vc_e (e_bsn (l := exC x ox cx ++ exC z oz cz) (E := 60) st [(0, _), (1, _)] rfl rfl rfl (fun w => by simp [Instr.buildSlice, run_underlying underlying54, sizeOf60, zeroValue60, Instr.fill, newRow, newObj, Sem.run, go_sem, Value.cells]) ?_)
  intro b54 w hb54 st
  refine yfz 3 underlying82 sizeOf3 ?_
  refine yl st 3 isAgg3 ?_
  refine vy (y_bld (.agg #[_, _, _, _, _, _]) [(0, _), (1, _), (4, _), (5, _)] rfl (fun w => by simp [Instr.build, go_sem] <;> repeat' constructor)) ?_
  refine vc_e (e_sts (vs := [_, _, _, _, _, _]) st 4 rfl rfl rfl rfl rfl sizeOf60 rfl rfl (by (right; assumption)) ?_)
  intro w st; dsimp only [setNth, wr] at st
  refine vc_end (vq_block ?_)
  refine vq_again ⟨binE ((findO (hereE c.e σ1.r).text).getD 0) (hereE c.e σ1.r).at_ x z, σ2, k, some ⟨b54, 0, none⟩, 2, b54 :: (Sx ++ Sz)⟩  ⟨rfl, rfl, rfl, rfl, rfl, trivial⟩ (by
    have hE2 := ex_two (st.res (i := 0) rfl) (st.res (i := 5) rfl).1 (st.res (i := 2) rfl).1
    exact (((st.pick [0, 5, 2, 4, 6, 7] rfl (by decide)).joinN 3 (q := .tree (b54 :: (Sx ++ Sz)) fun w => ExR 60 w (some ⟨b54, 0, none⟩) 2 [x, z] (b54 :: (Sx ++ Sz))) (fun k hk => by
      rcases List.mem_cons.1 hk with rfl | hk
      · exact ⟨_, .head _, .head _⟩
      · rcases List.mem_append.1 hk with h | h
        · exact ⟨_, .tail _ (.head _), h⟩
        · exact ⟨_, .tail _ (.tail _ (.head _)), h⟩) (holds_ex hE2))).pick [1, 0, 2, 3] rfl (by decide)) ?_ ?_
  ·refine ⟨hsf.trans ((List.tail_suffix _).trans hsf1), fun ho2 => by have := hlt1 ho; have := suf_len hsf; dsimp only at *; omega, by have := suf_len hsf; dsimp only at *; omega, ?_, ?_⟩
   ·refine Nw.app (S := [b54]) ⟨by simp, by simpa using hb54⟩ (hSx.app hNSz (st.ne (i := 5) (j := 2) (by decide) rfl rfl)) (fun b hb hb' => ?_)
    rcases List.mem_append.1 hb' with h | h
    ·exact st.ne (i := 0) (j := 5) (by decide) rfl rfl b hb h
    ·exact st.ne (i := 0) (j := 2) (by decide) rfl rfl b hb h
   rw [hG, hereE_cons hne1]
   rw [hereE_cons hne1] at hop hlvl hD
   exact loop_step (unary_goes c.e m) ho hop hlvl hk1 hD
  ·have := suf_len hsf; dsimp only at *; omega
 intro hc16
 try simp only [dn] at hc16
 have ho : ¬ σ1.ok := by simpa using hc16
 refine vc_exit (vq_then_exit (vq_then_exit (vq_block_exit (vq_then (vk2 6 7 (sr ?_))))))
 refine yla st 0 [_, _, _, _, _, _] isAgg60 sizeOf60 ?_
 refine vc_e (e_sts (vs := [_, _, _, _, _, _]) st 2 rfl rfl rfl rfl rfl sizeOf60 rfl rfl (by (right; assumption)) ?_)
 intro w st; dsimp only [setNth, wr] at st
 refine et (vk1 6 (vc_ret ?_))
 refine vq_ret1 st (.inl rfl) results82 (by exact .cell 2 rfl rfl isAgg60 sizeOf60) ?_
 refine ⟨_, rfl, ?_⟩
 exact ⟨x, σ1, by rw [hG]; exact .bad ho x, hsf1, (by exact st.res (i := 3) rfl), st.chg, ox, cx, Sx, rfl, (by exact (st.res (i := 1) rfl).1), hSx⟩
theorem reader_any (c : RCtx) : ∀ n, UR c n ∧ ER c n := fun n => by
 induction n using Nat.strongRecOn with
 | _ n ih =>
  have hU := runary_of c n (fun k hk => (ih k hk).1) (fun k hk => (ih k hk).2)
  exact ⟨hU, rexpr_of c n hU (fun k hk => (ih k hk).2)⟩

end Go.Proofs.YtggnfanphcaamaaGreatDoor


namespace Go.Proofs.YtggnfanphcaamaaGreatDoor
open Go.RowKit Sx LexS ParS _root_.Go.Proofs.Tryz
theorem inner_kind {r : List Tok} (h : innerT r = true) : (here r).kind = 2 ∨ (here r).kind = 4 := by
  unfold innerT isT at h
  simp only [Bool.or_eq_true, Bool.and_eq_true, decide_eq_true_eq] at h
  rcases h with (h | h) | h <;> exact h.2
theorem unary_out {e m : Nat} {r : List Tok} (h : innerT r = false) : unaryP e m r = leafP e r := by
  cases m with
  | zero => simp only [unaryP]; rw [if_neg (by simp [h])]
  | succ m => simp only [unaryP]; rw [if_neg (by simp [h])]
theorem unary_deep {e : Nat} {r : List Tok} (h : innerT r = true) : unaryP e 0 r = fail e 3 r := by simp only [unaryP]; rw [if_pos h]
theorem unary_par {e m : Nat} {r : List Tok} (h : innerT r = true) (h2 : (here r).text = [40]) : unaryP e (m + 1) r = match exprW (unaryP e m) r.tail with
    | .error f => .error f
    | .ok (x, r1) => match want e [41] r1 with
      | .error f => .error f
      | .ok r2 => .ok (x, r2) := by
  simp only [unaryP]; rw [if_pos h, if_pos h2]; rfl
theorem unary_op {e m : Nat} {r : List Tok} (h : innerT r = true) (h2 : ¬ (here r).text = [40]) : unaryP e (m + 1) r = match unaryP e m r.tail with
    | .error f => .error f
    | .ok (x, r1) => .ok (.mk 3 (if (here r).text = [33] then 18 else 17) 0 [] [x] ((here r).at_ : Int), r1) := by
  simp only [unaryP]; rw [if_pos h, if_neg h2]; rfl
set_option maxHeartbeats 1000000 in
theorem punary_of (c : PCtx) (hR : c.R = 40) (d m : Nat) (hd : d + m = 64) (hE : ∀ k, m = k + 1 → DRead 92 c (d + 1) (exprW (unaryP c.e k))) (hU : ∀ k, m = k + 1 → DRead 100 c (d + 1) (unaryP c.e k)) : DRead 100 c d (unaryP c.e m) := by
  intro r hr w hC hP
  refine retp_of [_, _] func100 rfl ntmps100 rfl ?_
  obtain ⟨w0, rfl⟩ : ∃ w0, w0 = w := ⟨_, rfl⟩
  have hP' := hP
  dsimp only [PAt, pcell] at hP
  have st := St.of1 [c.pb] hP
  have h20 := hC.len
  have hl := suf_len hr
  refine sr ?_
  refine vc_e (e_al (l := [_, _, _, _, _, _]) st rfl rfl zeroValue60 rfl ?_)
  intro b4 w hb4 st
  refine et (vk3 0 1 4 (sr ?_))
  refine ym ?_
  refine vc_e (e_call [_] rfl rfl call42 rfl (phere_any c r hr _ (hC.k1 st.chg) (by exact st.res (i := 1) rfl)) ?_)
  rintro _ w ⟨rfl, cw⟩
  replace st := st.call0 cw
  refine vc_e (e_al (l := [_, _, _, _]) st rfl rfl zeroValue82 rfl ?_)
  intro b5 w hb5 st
  refine vc_e (e_sts (vs := [_, _, _, _]) st 0 rfl rfl rfl rfl rfl sizeOf82 rfl rfl (by (right; assumption)) ?_)
  intro w st; dsimp only [setNth, wr] at st
  refine et (vk4 0 1 4 5 ?_)
  refine vc_cut (w0 := w0) (M := [c.pb]) (fun (b : Bool) => [(0, .pointer (some ⟨c.pb, 0, none⟩)), (1, .int .i64 (d : Int)), (4, .pointer (some ⟨b4, 0, none⟩)), (5, .pointer (some ⟨b5, 0, none⟩)), (6, .bool b)]) (fun _ => [.blk b5 (.cells (tkL (here r)).toArray 82 (0, 0)), .blk b4 (.cells ex00.toArray 60 (0, 0)), .blk c.pb (.cells (pcell c r).toArray c.T (0, 0))]) (fun b _ => b = innerT r) ?_ ?_
  ·refine vc_region ?_
   refine ym ?_
   refine vc_e (e_call [_, _] rfl rfl call27 rfl (pis_any c [45] r hr _ (hC.k1 st.chg) (by exact st.res (i := 2) rfl)) ?_)
   rintro _ w ⟨rfl, cw⟩
   replace st := st.call0 cw
   refine vmb ?_ ?_
   ·intro hg13
    try simp only [dn] at hg13
    iterate 2 refine vsk ?_
    refine ypt ?_
    refine ym ?_
    iterate 2 refine vsk ?_
    refine ypt ?_
    refine ya ?_
    refine vc_end ?_
    refine vq_meet true ⟨rfl, rfl, rfl, rfl, rfl, trivial⟩ st ?_
    ·show true = _
     unfold innerT; rw [hg13]; rfl
   intro hg13
   try simp only [dn] at hg13
   refine ym ?_
   refine vc_e (e_call [_, _] rfl rfl call27 rfl (pis_any c [33] r hr _ (hC.k1 st.chg) (by exact st.res (i := 2) rfl)) ?_)
   rintro _ w ⟨rfl, cw⟩
   replace st := st.call0 cw
   refine ypf ?_
   refine vmb ?_ ?_
   ·intro hg17
    try simp only [dn] at hg17
    iterate 2 refine vsk ?_
    refine ypt ?_
    refine ya ?_
    refine vc_end ?_
    refine vq_meet true ⟨rfl, rfl, rfl, rfl, rfl, trivial⟩ st ?_
    ·show true = _
     unfold innerT; rw [hg17]; simp
   intro hg17
   try simp only [dn] at hg17
   refine ym ?_
   refine vc_e (e_call [_, _] rfl rfl call27 rfl (pis_any c [40] r hr _ (hC.k1 st.chg) (by exact st.res (i := 2) rfl)) ?_)
   rintro _ w ⟨rfl, cw⟩
   replace st := st.call0 cw
   refine ypf ?_
   refine ya ?_
   refine vc_end ?_
   refine vq_meet (isT [40] r) ⟨rfl, rfl, rfl, rfl, rfl, trivial⟩ st ?_
   ·show isT [40] r = _
    unfold innerT; rw [hg13, hg17]; rfl
  clear st
  rintro inn w hin st
  refine vc_seq (vc_block (sr ?_))
  refine ym ?_
  refine vmb ?_ ?_
  ·intro hg23
   try simp only [dn] at hg23
   subst hg23
   refine ym ?_
   refine vy (y_eqi rfl rfl) ?_
   refine ypt ?_
   refine ya ?_
   refine et (vk6 0 1 4 5 6 21 ?_)
   refine vif ?_ ?_
   ·intro hc21
    try simp only [dn] at hc21
    have hd64 : d = 64 := by omega
    obtain rfl : m = 0 := by omega
    have hs := unary_deep (e := c.e) hin.symm
    refine vc_region ?_
    refine ym ?_
    refine vc_e (e_callp [_, _] rfl rfl call29 rfl (pfail_any c 3 r hr _ (hC.k1 st.chg) (by exact st.res (i := 2) rfl) hR) (by rintro _ w' ⟨rfl, ch⟩ a ha; exact And.intro ha (Or.inr ⟨_, rfl, (atT c.e r, 3), by rw [hs]; rfl, rfl, st.chg.trans ch.of_nil⟩)) (fun _ _ h => h.elim))
   intro hc21
   try simp only [dn] at hc21
   have hd64 : ¬ d = 64 := by omega
   obtain ⟨m, rfl⟩ : ∃ k, m = k + 1 := ⟨m - 1, by omega⟩
   refine sr ?_
   refine vy (y_fa0 rfl underlying82 rfl rfl sizeOf80 rfl) ?_
   refine yl st 0 isAgg80 ?_
   refine vy (y_eqi rfl rfl) ?_
   refine ya ?_
   refine et (vk6 0 1 4 5 6 29 ?_)
   refine vif ?_ ?_
   ·intro hc29
    exfalso; have := inner_kind hin.symm; revert hc29; simp; omega
   intro hc29
   try simp only [dn] at hc29
   refine sr ?_
   refine vy (y_fa0 rfl underlying82 rfl rfl sizeOf80 rfl) ?_
   refine yl st 0 isAgg80 ?_
   refine vy (y_eqi rfl rfl) ?_
   refine ya ?_
   refine et (vk6 0 1 4 5 6 40 ?_)
   refine vif ?_ ?_
   ·intro hc40
    exfalso; have := inner_kind hin.symm; revert hc40; simp; omega
   intro hc40
   try simp only [dn] at hc40
   refine sr ?_
   refine ym ?_
   refine vy (y_not rfl) ?_
   refine ya ?_
   refine et (vk5 0 1 4 5 51 ?_)
   refine vif ?_ ?_
   ·intro hc51
    exfalso; revert hc51; simp
   intro hc51
   try simp only [dn] at hc51
   refine vc_code_skip (vq_block (vq_then (vk4 0 1 4 5 (sr ?_))))
   refine ym ?_
   refine vc_e (e_call [_] rfl rfl call43 rfl (pnext_any c r hr (inner_ne hin.symm) _ (hC.k1 st.chg) (by exact st.res (i := 2) rfl)) ?_)
   rintro _ w ⟨rfl, hP1, cw⟩
   replace st := St.prs (b := c.pb) st 2 rfl cw (.inl (.head _)) hP1
   dsimp only [setNth] at st
   refine et (vk4 0 1 4 5 (vc_seq (sr ?_)))
   refine yfz 1 underlying82 sizeOf9 ?_
   refine yl st 0 isAgg9 ?_
   refine vy (y_eqs rfl rfl) ?_
   refine et (vk5 0 1 4 5 60 ?_)
   refine vif ?_ ?_
   ·intro hc60
    try simp only [dn] at hc60
    have hs := unary_par (e := c.e) (m := m) hin.symm hc60
    have hne := inner_ne hin.symm
    have hlt := tail_lt hne
    have hr1 := suf_tail hr
    refine sr ?_
    iterate 2 refine ym ?_
    refine vy (y_add rfl rfl (by omega : _ = ((d + 1 : Nat) : Int)) (by omega) (by omega)) ?_
    refine vc_e (e_callp [_, _] rfl rfl call92 rfl (hE m rfl r.tail hr1 _ (hC.k1 st.chg) (by exact st.res (i := 2) rfl)) (by rintro _ w' ⟨f, hf, rfl, ch⟩ a ha; exact And.intro ha (Or.inr ⟨_, rfl, f, by rw [hs, hf], rfl, st.chg.trans ch⟩)) ?_)
    rintro _ w ⟨x, r2, hx, hsfr2, hlnr2, hP1, cw, ox, cx, Sx, rfl, hQ, hN⟩
    have hNSx := hN.le st.chg.size
    replace st := St.prsT (b := c.pb) st 2 rfl cw (.inl (.head _)) hP1 (holds_ex hQ) hN.2
    dsimp only [setNth] at st
    rw [hx] at hs; dsimp only at hs
    refine vc_e (e_al (l := [_, _, _, _, _, _]) st rfl rfl zeroValue60 rfl ?_)
    intro b7 w hb7 st
    refine vc_e (e_sts (vs := [_, _, _, _, _, _]) st 0 rfl rfl rfl rfl rfl sizeOf60 rfl rfl (by (right; assumption)) ?_)
    intro w st; dsimp only [setNth, wr] at st
    refine et (vk3 0 4 7 (sr ?_))
    refine ym ?_
    refine vc_e (e_bs1 (l := [_]) st rfl rfl rfl rfl underlying96 sizeOf9 rfl rfl rfl zeroValue9 ?_)
    intro b66 w hb66 st
    refine vc_e (e_callp [_, _] rfl rfl call41 rfl (pwant_any c [[41]] (by simp) _ _ _ _ rfl r2 (hsfr2.trans hr1) _ (hC.k1 st.chg) (by exact st.res (i := 5) rfl) hR (st.res (i := 0) rfl) (by exact st.bne 0 5 (by decide) rfl rfl)) (by rintro _ w' ⟨f, hf, rfl, ch⟩ a ha; rw [wantL_one] at hf; exact And.intro ha (Or.inr ⟨_, rfl, f, by rw [hs, hf], rfl, st.chg.trans ch⟩)) ?_)
    rintro _ w ⟨r3, hx, hsfr3, hlnr3, hP1, cw⟩
    rw [wantL_one] at hx
    rw [hx] at hs; dsimp only at hs
    replace st := St.prs (b := c.pb) st 5 rfl cw (.inl (.head _)) hP1
    dsimp only [setNth] at st
    have hr3 := hsfr3.trans (hsfr2.trans hr1)
    refine et (vk2 4 7 (sr ?_))
    refine yla st 1 [_, _, _, _, _, _] isAgg60 sizeOf60 ?_
    refine vc_e (e_sts (vs := [_, _, _, _, _, _]) st 4 rfl rfl rfl rfl rfl sizeOf60 rfl rfl (by (right; assumption)) ?_)
    intro w st; dsimp only [setNth, wr] at st
    refine et (vk1 4 (vc_ret (vq_then_ret ?_)))
    refine vq_ret1 st (.inl rfl) results100 (by exact .cell 4 rfl rfl isAgg60 sizeOf60) ?_
    refine .inl ⟨_, rfl, ?_⟩
    exact ⟨x, r3, hs, (hsfr3.trans hsfr2).trans (List.tail_suffix _), by simp at hlnr3; omega, (by exact st.res (i := 5) rfl), st.chg, ox, cx, Sx, rfl, (by exact (st.res (i := 2) rfl).1), hNSx⟩
   intro hc60
   try simp only [dn] at hc60
   have hs := unary_op (e := c.e) (m := m) hin.symm hc60
   have hne := inner_ne hin.symm
   have hlt := tail_lt hne
   have hr1 := suf_tail hr
   refine kt (vk4 0 1 4 5 (sr ?_))
   refine ya ?_
   refine et (vk5 0 1 4 5 8 (vc_seq (sr ?_)))
   refine yfz 1 underlying82 sizeOf9 ?_
   refine yl st 0 isAgg9 ?_
   refine vy (y_eqs rfl rfl) ?_
   refine et (vk6 0 1 4 5 8 71 ?_)
   refine vif ?_ ?_
   intro hc71
   try simp only [dn] at hc71
   rw [if_pos hc71] at hs
   refine vc_region ?_
   refine ya ?_
   refine vc_end ?_
   rotate_left
   intro hc71
   try simp only [dn] at hc71
   rw [if_neg hc71] at hs
   refine vc_code_skip ?_
   all_goals
     refine vq_then (vk5 0 1 4 5 8 (vc_seq ?_))
     refine vc_draw Tryz.mixed [(0, true), (1, true), (2, true), (3, true), (6, true), (7, true), (4, false), (5, false), (8, true), (9, false)] (fun w => St _ _ [.blk b5 (.cells (tkL (here r)).toArray 82 (0, 0))] w) st.dr (by kernel_rfl) (by repeat (first | exact okQ_noPan | exact okQ_body | exact okQ_bodyS | refine okQ_then ?_ | refine okQ_block ?_)) rfl (by kernel_rfl) ?_
     intro w cd; replace st := st.call0 cd; clear cd
     have hS : St _ _ [.blk b5 (.cells (tkL (here r)).toArray 82 (0, 0))] w := st.dr
     iterate 3 refine pm hS ?_
     refine vp_take rfl rfl rfl hS (fun w st => y_add rfl rfl (by omega : _ = ((d + 1 : Nat) : Int)) (by omega) (by omega)) ?_
     refine pfz hS 3 underlying82 sizeOf3 ?_
     refine pld hS 0 isAgg3 ?_
     refine vp_do rfl (e_callp [_, _] rfl rfl call100 rfl (hU m rfl r.tail hr1 _ (hC.k1 st.chg) (by exact st.res (i := 2) rfl)) (by rintro _ w' ⟨f, hf, rfl, ch⟩ a ha; exact And.intro ha (Or.inr ⟨_, rfl, f, by rw [hs, hf], rfl, st.chg.trans ch⟩)) ?_)
     rintro _ w ⟨x, r2, hx, hsfr2, hlnr2, hP1, cw, ox, cx, Sx, rfl, hQ, hN⟩
     have hNSx := hN.le st.chg.size
     replace st := St.prsT (b := c.pb) st 2 rfl cw (.inl (.head _)) hP1 (holds_ex hQ) hN.2
     dsimp only [setNth] at st
     rw [hx] at hs; dsimp only at hs
     refine vp_next st.dr ?_; intro hS
     refine vp_do rfl (e_bs1 (l := [_, _, _, _, _, _]) st rfl rfl rfl rfl underlying54 sizeOf60 rfl rfl rfl zeroValue60 ?_)
     intro b77 w hb77 st
     refine vp_next st.dr ?_; intro hS
     refine vp_take rfl rfl rfl hS (fun w st => y_bld (.agg #[_, _, _, _, _, _]) [(0, _), (1, _), (4, _), (5, _)] rfl (fun w => by simp [Instr.build, go_sem] <;> repeat' constructor)) ?_
     refine vp_do rfl (e_sts (vs := [_, _, _, _, _, _]) st 3 rfl rfl rfl rfl rfl sizeOf60 rfl rfl (by (right; assumption)) ?_)
     intro w st; dsimp only [setNth, wr] at st
     refine vp_next st.dr ?_; intro hS
     refine vp_end (vq_then (vk1 4 (vc_ret ?_)))
     refine vq_ret1 st (.inl rfl) results100 (by exact .cell 3 rfl rfl isAgg60 sizeOf60) ?_
     refine .inl ⟨_, rfl, ?_⟩
     exact ⟨_, _, hs, hsfr2.trans (List.tail_suffix _), by omega, (by exact st.res (i := 4) rfl), st.chg, some ⟨b77, 0, none⟩, 1, b77 :: Sx, rfl, ex_one (st.res (i := 0) rfl) (st.res (i := 1) rfl).1, Nw.app (S := [b77]) ⟨by simp, by simpa using hb77⟩ hNSx (fun b hb hb' => st.ne (i := 0) (j := 1) (by decide) rfl rfl b hb hb')⟩
  intro hg23
  try simp only [dn] at hg23
  subst hg23
  iterate 2 refine vsk ?_
  refine ypf ?_
  refine ya ?_
  refine et (vk6 0 1 4 5 6 21 ?_)
  refine vc_iff rfl ?_
  refine sr ?_
  refine vy (y_fa0 rfl underlying82 rfl rfl sizeOf80 rfl) ?_
  refine yl st 0 isAgg80 ?_
  refine vy (y_eqi rfl rfl) ?_
  refine ya ?_
  refine et (vk6 0 1 4 5 6 29 ?_)
  refine vif ?_ ?_
  ·intro hc29
   try simp only [dn] at hc29
   have hk : (here r).kind = 3 := by omega
   have hne := kind_ne hk (by decide)
   have hs := (unary_out (e := c.e) (m := m) hin.symm).trans (by unfold leafP; rw [if_pos hk])
   refine sr ?_
   refine ym ?_
   refine vc_e (e_call [_] rfl rfl call43 rfl (pnext_any c r hr hne _ (hC.k1 st.chg) (by exact st.res (i := 2) rfl)) ?_)
   rintro _ w ⟨rfl, hP1, cw⟩
   replace st := St.prs (b := c.pb) st 2 rfl cw (.inl (.head _)) hP1
   dsimp only [setNth] at st
   refine et (vk2 4 5 (sr ?_))
   refine yfz 2 underlying82 sizeOf2 ?_
   refine yl st 0 isAgg2 ?_
   refine yfz 3 underlying82 sizeOf3 ?_
   refine yl st 0 isAgg3 ?_
   refine vy (y_bld (.agg #[_, _, _, _, _, _]) [(0, _), (2, _), (5, _)] rfl (fun w => by simp [Instr.build, go_sem] <;> repeat' constructor)) ?_
   refine vc_e (e_sts (vs := [_, _, _, _, _, _]) st 1 rfl rfl rfl rfl rfl sizeOf60 rfl rfl (by (right; assumption)) ?_)
   intro w st; dsimp only [setNth, wr] at st
   refine et (vk1 4 (vc_ret (vq_block_ret (vq_then_ret ?_))))
   refine vq_ret1 st (.inl rfl) results100 (by exact .cell 1 rfl rfl isAgg60 sizeOf60) ?_
   refine .inl ⟨_, rfl, ?_⟩
   exact ⟨_, _, hs, List.tail_suffix _, tail_lt hne, (by exact st.res (i := 2) rfl), st.chg, none, 0, [], rfl, ⟨[], [], World.ownsRow_nil _ _ _ _, rfl, rfl, rfl⟩, Nw.nil⟩
  intro hc29
  try simp only [dn] at hc29
  refine sr ?_
  refine vy (y_fa0 rfl underlying82 rfl rfl sizeOf80 rfl) ?_
  refine yl st 0 isAgg80 ?_
  refine vy (y_eqi rfl rfl) ?_
  refine ya ?_
  refine et (vk6 0 1 4 5 6 40 ?_)
  refine vif ?_ ?_
  ·intro hc40
   try simp only [dn] at hc40
   have hk : (here r).kind = 1 := by omega
   have hne := kind_ne hk (by decide)
   have hs := (unary_out (e := c.e) (m := m) hin.symm).trans (by unfold leafP; rw [if_neg (by omega), if_pos hk])
   refine sr ?_
   refine ym ?_
   refine vc_e (e_call [_] rfl rfl call43 rfl (pnext_any c r hr hne _ (hC.k1 st.chg) (by exact st.res (i := 2) rfl)) ?_)
   rintro _ w ⟨rfl, hP1, cw⟩
   replace st := St.prs (b := c.pb) st 2 rfl cw (.inl (.head _)) hP1
   dsimp only [setNth] at st
   refine et (vk2 4 5 (sr ?_))
   refine yfz 1 underlying82 sizeOf9 ?_
   refine yl st 0 isAgg9 ?_
   refine yfz 3 underlying82 sizeOf3 ?_
   refine yl st 0 isAgg3 ?_
   refine vy (y_bld (.agg #[_, _, _, _, _, _]) [(0, _), (3, _), (5, _)] rfl (fun w => by simp [Instr.build, go_sem] <;> repeat' constructor)) ?_
   refine vc_e (e_sts (vs := [_, _, _, _, _, _]) st 1 rfl rfl rfl rfl rfl sizeOf60 rfl rfl (by (right; assumption)) ?_)
   intro w st; dsimp only [setNth, wr] at st
   refine et (vk1 4 (vc_ret (vq_block_ret (vq_then_ret ?_))))
   refine vq_ret1 st (.inl rfl) results100 (by exact .cell 1 rfl rfl isAgg60 sizeOf60) ?_
   refine .inl ⟨_, rfl, ?_⟩
   exact ⟨_, _, hs, List.tail_suffix _, tail_lt hne, (by exact st.res (i := 2) rfl), st.chg, none, 0, [], rfl, ⟨[], [], World.ownsRow_nil _ _ _ _, rfl, rfl, rfl⟩, Nw.nil⟩
  intro hc40
  try simp only [dn] at hc40
  refine sr ?_
  refine ym ?_
  refine vy (y_not rfl) ?_
  refine ya ?_
  refine et (vk5 0 1 4 5 51 ?_)
  refine vif ?_ ?_
  ·intro hc51
   try simp only [dn] at hc51
   have hs := (unary_out (e := c.e) (m := m) hin.symm).trans (show leafP c.e r = fail c.e 2 r by unfold leafP; rw [if_neg (by omega), if_neg (by omega)])
   refine vc_region ?_
   refine ym ?_
   refine vc_e (e_callp [_, _] rfl rfl call29 rfl (pfail_any c 2 r hr _ (hC.k1 st.chg) (by exact st.res (i := 2) rfl) hR) (by rintro _ w' ⟨rfl, ch⟩ a ha; exact And.intro ha (Or.inr ⟨_, rfl, (atT c.e r, 2), by rw [hs]; rfl, rfl, st.chg.trans ch.of_nil⟩)) (fun _ _ h => h.elim))
  intro hc51
  exfalso; revert hc51; simp
end Go.Proofs.YtggnfanphcaamaaGreatDoor

