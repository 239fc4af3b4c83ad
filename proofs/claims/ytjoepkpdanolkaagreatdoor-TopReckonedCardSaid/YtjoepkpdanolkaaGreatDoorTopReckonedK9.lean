/- A part of the proof: contracts of functions and plain laws; each theorem says its own conditions. -/
import Derived.Test.YtjoepkpdanolkaaGreatDoorRows
import Derived.Test.YtjoepkpdanolkaaGreatDoorTopReckonedK2
import Derived.Test.YtjoepkpdanolkaaGreatDoorTopReckonedK8
import Derived.Test.YtjoepkpdanolkaaGreatDoorTopReckonedK6
import Derived.Test.YtjoepkpdanolkaaGreatDoorTopReckonedK1
import Derived.Test.YtjoepkpdanolkaaGreatDoorTopReckonedK3
set_option linter.unusedVariables false
set_option linter.unusedSimpArgs false
namespace Go.Proofs.YtjoepkpdanolkaaGreatDoor
open Go.RowKit Sx LexS ParS _root_.Go.Proofs.Tryz
theorem Tryz.info2 : Tryz.prog.info? 2 = some Tryz.t2 := by kernel_rfl
theorem Tryz.info90 : Tryz.prog.info? 90 = some Tryz.t90 := by kernel_rfl
/-- what the loop over the graphs holds -/
structure NwX where
 ga : Option Addr
 gc : Nat
 na : Option Addr
 nc : Nat
 sa : Option Addr
 sc : Nat
 ib : Nat
def nwM (us ul av hv : Value) (s : Nat) : Option NwX → List Value
 | none => [us, ul, .slice none 0 0, av, .slice none 0 0, .slice none 0 0, hv, .slice none 0 0]
 | some x => [us, ul, .slice x.ga 1 x.gc, av, .slice x.sa 1 x.sc, .slice none 0 0, hv, .slice none 0 0]
def nwG (n s : Nat) : Option NwX → Res
 | none => .tree [] fun _ => True
 | some x => .own (.slice x.ga 1 x.gc) 98 4 1 [str [97], .int .i64 0, .int .i64 (s : Int), .slice x.na n x.nc]
def nwN (N : List Nd) : Option NwX → Res
 | none => .tree [] fun _ => True
 | some x => .own (.slice x.na N.length x.nc) 103 13 N.length (linO N 0 0)
def nwS (s : Nat) : Option NwX → Res
 | none => .tree [] fun _ => True
 | some x => .own (.slice x.sa 1 x.sc) 90 1 1 [.slice (some ⟨x.ib, 0, none⟩) s s]
def nwI (s : Nat) : Option NwX → Res
 | none => .tree [] fun _ => True
 | some x => .blk x.ib (.cells (iL (List.replicate s 0)).toArray 2 (0, 0))
theorem ne3 {w0 w : World} {M : List Nat} {hs : List Res} {i j1 j2 j3 g b1 b2 b3 : Nat} {r : Res} {o1 o2 o3 : Obj} (st : St w0 M hs w) (hr : nth hs i = some r) (h1 : nth hs j1 = some (.blk b1 o1)) (h2 : nth hs j2 = some (.blk b2 o2)) (h3 : nth hs j3 = some (.blk b3 o3)) (d1 : i ≠ j1) (d2 : i ≠ j2) (d3 : i ≠ j3) (hg : g ∈ r.at?) : g ∉ [b1, b2, b3] := by
 intro hm
 simp only [List.mem_cons, List.not_mem_nil, or_false] at hm
 rcases hm with rfl | rfl | rfl
 ·exact st.ne d1 hr h1 _ hg (.head _)
 ·exact st.ne d2 hr h2 _ hg (.head _)
 ·exact st.ne d3 hr h3 _ hg (.head _)
theorem _root_.Sx.St.addT {w0 w : World} {M : List Nat} {hs : List Res} (st : St w0 M hs w) : St w0 M (.tree [] (fun _ => True) :: hs) w := st.add ⟨trivial, by simp, fun _ _ _ _ _ => trivial⟩ (by simp [Res.at?])

set_option maxHeartbeats 4000000 in
theorem new_any (N : List Nd) (s gb nb gc nc : Nat) (o1 o2 : Option Addr) (c1 c2 : Nat) (hN : GN N s) (w : World) (hug : UG w gb nb nc N s) :
    Ret Tryz.prog 9 [.agg [.slice o1 0 c1, .slice o2 0 c2, .slice (some ⟨gb, 0, none⟩) 1 gc].toArray] w fun v w' => Chg [] w w' ∧ ∃ c : MK, v = .tuple #[.pointer (some ⟨c.mb, 0, none⟩), .int .i64 0] ∧ c.N = N ∧ c.s = s ∧ (∀ k ∈ [c.mb, c.ab, c.ib], w.heap.size ≤ k) ∧ MkOk c ∧ w'.heap[c.mb]? = some (.cells (mcC c (.slice none 0 0)).toArray 92 (0, 0)) ∧ w'.heap[c.ab]? = some (.cells [.int .i64 0].toArray 3 (0, 0)) ∧ w'.heap[c.ib]? = some (.cells (iL (List.replicate s 0)).toArray 2 (0, 0)) ∧ Mr c w' := by
 refine ret_of [_] func9 rfl ntmps9 rfl ?_
 have st := St.init w []
 obtain ⟨w0, rfl⟩ : ∃ w0, w0 = w := ⟨_, rfl⟩
 have hpos := hN.pos
 have hle := hN.le
 have hsl := hN.sl
 refine sr ?_
 refine vc_e (e_bx (l := [_, _, _]) st rfl rfl rfl rfl ?_)
 intro b1 w hb1 st
 iterate 2 refine ya ?_
 refine et (vk1 1 (vc_seq (sr ?_)))
 refine vy ((by exact y_lda (vs := [_, _, _]) st 0 rfl isAgg40 sizeOf40 rfl rfl)) ?_
 refine vc_e (e_call [_] rfl rfl call26 rfl (gcheck_any N s gb nb gc nc o1 o2 c1 c2 hN _ ⟨fun i v h => st.chg.cell (hug.1 i v h) (by simp), fun i v h => st.chg.cell (hug.2 i v h) (by simp)⟩) ?_)
 rintro _ w ⟨rfl, cw⟩
 replace st := st.call0 cw
 refine ym ?_
 iterate 3 refine vy (y_ext rfl rfl) ?_
 iterate 3 refine ya ?_
 refine et (vk2 1 4 (sr ?_))
 refine ym ?_
 refine vy (y_nei rfl rfl) ?_
 refine et (vk3 1 4 20 ?_)
 refine vif ?_ ?_
 ·intro hc20
  exfalso; revert hc20; decide
 intro hc20
 try simp only [dn] at hc20
 refine kt (vk1 1 ?_)
 refine vc_cut (w0 := w0) (M := []) (fun (x : Nat × Nat × Nat) => [(1, .pointer (some ⟨b1, 0, none⟩)), (7, .pointer (some ⟨x.1, 0, none⟩))]) (fun x => [.blk x.1 (.cells ([.slice none 0 0, .slice none 0 0, .slice none 0 0, .slice (some ⟨x.2.1, 0, none⟩) 1 1, .slice none 0 0, .slice none 0 0, .slice (some ⟨x.2.2, 0, none⟩) 0 0, .slice none 0 0] : List Value).toArray 92 (0, 0)), .blk x.2.1 (.cells [.int .i64 0].toArray 3 (0, 0)), .blk b1 (.cells [.slice o1 0 c1, .slice o2 0 c2, .slice (some ⟨gb, 0, none⟩) 1 gc].toArray 40 (0, 0))]) (fun x w => w0.heap.size ≤ x.1 ∧ w0.heap.size ≤ x.2.1) ?_ ?_
 ·refine ddr0 Tryz.mixed (.take 0 (.take 1 (.take 2 (.take 4 (.take 5 (.take 6 (.two 3 7 (.one 7 (.take 8 (.one 9 (.take 10 .done)))) (.one 3 (.take 8 (.one 9 (.take 10 .done))))))))))) st ?_
  clear st; intro w st hS
  refine vd_take rfl rfl rfl hS (fun w st => (by exact y_faz (k := 2) rfl underlying40 rfl rfl sizeOf38 rfl)) ?_
  refine vd_take rfl rfl rfl hS (fun w st => (by exact y_ld st 0 rfl isAgg38 rfl rfl)) ?_
  refine vd_take rfl rfl rfl hS (fun w st => y_lensl rfl underlying38) ?_
  refine vd_take rfl rfl rfl hS (fun w st => (by exact y_faz (k := 1) rfl underlying40 rfl rfl sizeOf37 rfl)) ?_
  refine vd_take rfl rfl rfl hS (fun w st => (by exact y_ld st 0 rfl isAgg37 rfl rfl)) ?_
  refine vd_take rfl rfl rfl hS (fun w st => y_lensl rfl underlying37) ?_
  refine vd_two rfl rfl ?_ ?_
  ·refine (e_mkN (c := 1) (z := .int .i64 0) st rfl rfl rfl rfl underlying88 Tryz.info3 rfl rfl rfl (by decide) (by decide) (by decide) ?_)
   intro b25 w hb25 st; replace st := st.ownBlk
   refine vd_next (by exact st.drop (by repeat (first | exact sl0 | apply sl1 | apply sl2))) ?_; intro hS
   refine vd_do rfl (e_mkN (c := 0) (z := .int .i64 0) st rfl rfl rfl rfl underlying88 Tryz.info3 rfl rfl rfl (by decide) (by decide) (by decide) ?_)
   intro b29 w hb29 st; replace st := st.ownBlk
   refine vd_next (by exact st.drop (by repeat (first | exact sl0 | apply sl1 | apply sl2))) ?_; intro hS
   refine vd_take rfl rfl rfl hS (fun w st => ybd (.agg #[_, _, _, _, _, _, _, _]) [(1, _), (4, _)]) ?_
   refine vd_do rfl (e_bx (l := [_, _, _, _, _, _, _, _]) st rfl rfl rfl rfl ?_)
   intro b31 w hb31 st
   refine vd_next (by exact st.drop (by repeat (first | exact sl0 | apply sl1 | apply sl2))) ?_; intro hS
   refine vd_take rfl rfl rfl hS (fun w st => y_as rfl) ?_
   refine vd_end ?_
   refine vq_meet (b31, b25, b29) ⟨rfl, rfl, trivial⟩ (st.pick [0, 2, 3] rfl (by decide)) ?_
   ·exact ⟨hb31, hb25⟩
  refine (e_mkN (c := 0) (z := .int .i64 0) st rfl rfl rfl rfl underlying88 Tryz.info3 rfl rfl rfl (by decide) (by decide) (by decide) ?_)
  intro b29 w hb29 st; replace st := st.ownBlk
  refine vd_next (by exact st.drop (by repeat (first | exact sl0 | apply sl1 | apply sl2))) ?_; intro hS
  refine vd_do rfl (e_mkN (c := 1) (z := .int .i64 0) st rfl rfl rfl rfl underlying88 Tryz.info3 rfl rfl rfl (by decide) (by decide) (by decide) ?_)
  intro b25 w hb25 st; replace st := st.ownBlk
  refine vd_next (by exact st.drop (by repeat (first | exact sl0 | apply sl1 | apply sl2))) ?_; intro hS
  refine vd_take rfl rfl rfl hS (fun w st => ybd (.agg #[_, _, _, _, _, _, _, _]) [(1, _), (4, _)]) ?_
  refine vd_do rfl (e_bx (l := [_, _, _, _, _, _, _, _]) st rfl rfl rfl rfl ?_)
  intro b31 w hb31 st
  refine vd_next (by exact st.drop (by repeat (first | exact sl0 | apply sl1 | apply sl2))) ?_; intro hS
  refine vd_take rfl rfl rfl hS (fun w st => y_as rfl) ?_
  refine vd_end ?_
  refine vq_meet (b31, b25, b29) ⟨rfl, rfl, trivial⟩ (st.pick [0, 1, 3] rfl (by decide)) ?_
  ·exact ⟨hb31, hb25⟩
 clear st
 rintro ⟨mb, ab, hb⟩ w ⟨hmb, hab⟩ st
 dsimp only at hmb hab st ⊢
 refine sr ?_
 refine ym ?_
 refine vy (y_fa0 rfl underlying40 rfl rfl sizeOf37 rfl) ?_
 refine vy ((by exact y_ld st 2 rfl isAgg37 rfl rfl)) ?_
 refine vc_e (e_call [_] rfl rfl call27 rfl (cloneD_any o1 c1 _) ?_)
 rintro _ w ⟨⟨us, uc, rfl⟩, cw⟩
 replace st := st.call0 cw
 refine ynk ?_
 refine vy (y_fa0 rfl underlying92 rfl rfl sizeOf40 rfl) ?_
 refine vy (y_fa0 rfl underlying40 rfl rfl sizeOf37 rfl) ?_
 refine vc_e (est st 0 sizeOf37 ?_)
 intro w st; dsimp only [setNth, wr] at st
 refine et (vk2 1 7 (sr ?_))
 refine ym ?_
 refine vy ((by exact y_faz (k := 1) rfl underlying40 rfl rfl sizeOf37 rfl)) ?_
 refine vy ((by exact y_ld st 2 rfl isAgg37 rfl rfl)) ?_
 refine vc_e (e_call [_] rfl rfl call27 rfl (cloneD_any o2 c2 _) ?_)
 rintro _ w ⟨⟨ul, lc, rfl⟩, cw⟩
 replace st := st.call0 cw
 refine ynk ?_
 refine vy (y_fa0 rfl underlying92 rfl rfl sizeOf40 rfl) ?_
 refine vy ((by exact y_faz (k := 1) rfl underlying40 rfl rfl sizeOf37 rfl)) ?_
 refine vc_e (est st 0 sizeOf37 ?_)
 intro w st; dsimp only [setNth, wr] at st
 refine et (vk2 1 7 (vc_seq (sr ?_)))
 refine vy ((by exact y_faz (k := 2) rfl underlying40 rfl rfl sizeOf38 rfl)) ?_
 refine vy ((by exact y_ld st 2 rfl isAgg38 rfl rfl)) ?_
 refine vy (y_lensl rfl underlying38) ?_
 refine ym ?_
 refine et (vk5 1 7 47 48 49 (vc_block ?_))
 refine vc_loop (w0 := w0) (M := []) (fun (x : Option NwX) => [(1, .pointer (some ⟨b1, 0, none⟩)), (7, .pointer (some ⟨mb, 0, none⟩)), (47, .slice (some ⟨gb, 0, none⟩) 1 gc), (48, .int .i64 1), (49, .int .i64 (if x.isSome = true then 1 else 0))]) (fun x => [nwG N.length s x, nwN N x, nwS s x, nwI s x, .blk mb (.cells (nwM (.slice us 0 uc) (.slice ul 0 lc) (.slice (some ⟨ab, 0, none⟩) 1 1) (.slice (some ⟨hb, 0, none⟩) 0 0) s x).toArray 92 (0, 0)), .blk ab (.cells ([.int .i64 0] : List Value).toArray 3 (0, 0)), .blk b1 (.cells ([.slice o1 0 c1, .slice o2 0 c2, .slice (some ⟨gb, 0, none⟩) 1 gc] : List Value).toArray 40 (0, 0))]) (fun x w' => ∀ y, x = some y → w0.heap.size ≤ y.ib) (fun x => if x.isSome = true then 0 else 1) none ⟨rfl, rfl, rfl, rfl, rfl, trivial⟩ st.addT.addT.addT.addT (fun y h => by cases h) ?_
 clear st
 intro x w hph st
 refine sr ?_
 refine vy (y_lss rfl rfl) ?_
 refine et (vk6 1 7 47 48 49 50 (vc_seq ?_))
 refine vif ?_ ?_
 ·intro hc50
  try simp only [dn] at hc50
  have hx : x = none := by
   match x, hc50 with
   | none, _ => rfl
   | some _, h => simp at h
  subst hx
  simp only [nwG, nwN, nwS, nwI, nwM] at st
  replace st := st.pick [4, 5, 6] rfl (by decide)
  refine kt (vk5 1 7 47 48 49 (vc_seq (vc_block (sr ?_))))
  refine vy ((by exact y_ia0 (k := 0) rfl rfl underlying38 sizeOf98 rfl (by omega))) ?_
  refine vy ((by exact y_ldca [str [97], .int .i64 0, .int .i64 (s : Int), .slice (some ⟨nb, 0, none⟩) N.length nc] rfl isAgg98 sizeOf98 rfl (fun i v hi => st.chg.cell (by rw [Nat.zero_mul, Nat.zero_add]; exact hug.1 i v hi) (by simp)))) ?_
  refine vc_e (e_al (l := [_, _, _, _]) st rfl rfl zeroValue98 rfl ?_)
  intro b9 w hb9 st
  refine vc_e (ests st 0 [_, _, _, _] sizeOf98 ?_)
  intro w st; dsimp only [setNth, wr] at st
  refine et (vk6 1 7 9 47 48 49 (sr ?_))
  refine vy ((by exact y_faz (k := 3) rfl underlying98 rfl rfl sizeOf96 rfl)) ?_
  refine vy ((by exact y_ld st 0 rfl isAgg96 rfl rfl)) ?_
  refine vc_e (e_call [_] rfl rfl call28 rfl (cloneN_any nb nc N hpos hle _ (fun i v h => st.chg.cell (hug.2 i v h) (by simp))) ?_)
  rintro _ w ⟨⟨nb2, nc2, rfl, hno⟩, cw⟩
  replace st := st.pushOwn cw hno
  refine vy ((by exact y_faz (k := 3) rfl underlying98 rfl rfl sizeOf96 rfl)) ?_
  refine vc_e (est st 1 sizeOf96 ?_)
  intro w st; dsimp only [setNth, wr] at st
  refine et (vk6 1 7 9 47 48 49 (vc_seq ?_))
  replace st := st.ownNil 98 4
  refine vk_draw Tryz.mixed [(0, true), (1, true), (2, true), (3, true), (4, true), (5, true), (6, true), (7, false), (8, false), (9, true), (10, true), (11, true), (12, false)] 12 (fun w => St _ _ [.blk b9 (.cells ([str [97], .int .i64 0, .int .i64 (s : Int), .slice (some ⟨nb2, 0, none⟩) N.length nc2] : List Value).toArray 98 (0, 0)), .blk mb (.cells ([.slice us 0 uc, .slice ul 0 lc, .slice none 0 0, .slice (some ⟨ab, 0, none⟩) 1 1, .slice none 0 0, .slice none 0 0, .slice (some ⟨hb, 0, none⟩) 0 0, .slice none 0 0] : List Value).toArray 92 (0, 0))] w) (by exact st.drop (by repeat (first | exact sl0 | apply sl1 | apply sl2))) (by kernel_rfl) (by repeat (first | exact okQ_noPan | exact okQ_body | exact okQ_bodyS | refine okQ_then ?_ | refine okQ_block ?_)) rfl (by kernel_rfl) rfl ?_
  intro w cd; replace st := st.call0 cd; clear cd
  have hS : St _ _ [.blk b9 (.cells ([str [97], .int .i64 0, .int .i64 (s : Int), .slice (some ⟨nb2, 0, none⟩) N.length nc2] : List Value).toArray 98 (0, 0)), .blk mb (.cells ([.slice us 0 uc, .slice ul 0 lc, .slice none 0 0, .slice (some ⟨ab, 0, none⟩) 1 1, .slice none 0 0, .slice none 0 0, .slice (some ⟨hb, 0, none⟩) 0 0, .slice none 0 0] : List Value).toArray 92 (0, 0))] w := (by exact st.drop (by repeat (first | exact sl0 | apply sl1 | apply sl2)))
  iterate 2 refine km hS ?_
  refine vk_takeU rfl rfl rfl rfl (fun _ => hS) (fun w => y_nck rfl) ?_
  refine vk_takeU rfl rfl rfl rfl (fun _ => hS) (fun w => y_fa0 rfl underlying92 rfl rfl sizeOf40 rfl) ?_
  refine vk_takeU rfl rfl rfl rfl (fun _ => hS) (fun w => (by exact y_faz (k := 2) rfl underlying40 rfl rfl sizeOf38 rfl)) ?_
  refine vk_take rfl rfl rfl rfl hS (fun w st => (by exact y_ld st 1 rfl isAgg38 rfl rfl)) ?_
  refine vk_take rfl rfl rfl rfl hS (fun w st => (by exact y_lda (vs := [_, _, _, _]) st 0 rfl isAgg98 sizeOf98 rfl rfl)) ?_
  refine vk_do rfl rfl (e_bs1 (l := [_, _, _, _]) st rfl rfl rfl rfl underlying38 sizeOf98 rfl rfl rfl zeroValue98 ?_)
  intro b64 w hb64 st
  refine vk_next (by exact st.drop (by repeat (first | exact sl0 | apply sl1 | apply sl2))) ?_; intro hS
  refine vk_do rfl rfl (e_app (bytes := 56) st 1 0 rfl rfl rfl rfl rfl rfl underlying38 Tryz.info98 rfl rfl rfl rfl rfl (by simp) rfl rfl (by unfold maxLen; omega) (by omega) ?_)
  intro oa65 cap65 w st; dsimp only [setNth] at st
  refine vk_next (by exact st.drop (by repeat (first | exact sl0 | apply sl1 | apply sl2))) ?_; intro hS
  refine vk_takeU rfl rfl rfl rfl (fun _ => hS) (fun w => y_nck rfl) ?_
  refine vk_takeU rfl rfl rfl rfl (fun _ => hS) (fun w => y_fa0 rfl underlying92 rfl rfl sizeOf40 rfl) ?_
  refine vk_takeU rfl rfl rfl rfl (fun _ => hS) (fun w => (by exact y_faz (k := 2) rfl underlying40 rfl rfl sizeOf38 rfl)) ?_
  refine vk_do rfl rfl (est st 4 sizeOf38 ?_)
  intro w st; dsimp only [setNth, wr] at st
  refine vk_late ?_
  refine vk_end ?_
  refine vq_then (vk6 1 7 9 47 48 49 ?_)
  replace st := st.ownNil 90 1
  refine vk_draw Tryz.mixed [(0, true), (1, true), (2, true), (3, true), (5, true), (4, true), (6, true), (7, false), (8, false), (9, false), (10, true), (11, true), (12, false)] 12 (fun w => St _ _ [.blk b9 (.cells ([str [97], .int .i64 0, .int .i64 (s : Int), .slice (some ⟨nb2, 0, none⟩) N.length nc2] : List Value).toArray 98 (0, 0)), .blk mb (.cells ([.slice us 0 uc, .slice ul 0 lc, .slice oa65 (0 + 1) cap65, .slice (some ⟨ab, 0, none⟩) 1 1, .slice none 0 0, .slice none 0 0, .slice (some ⟨hb, 0, none⟩) 0 0, .slice none 0 0] : List Value).toArray 92 (0, 0))] w) (by exact st.drop (by repeat (first | exact sl0 | apply sl1 | apply sl2))) (by kernel_rfl) (by repeat (first | exact okQ_noPan | exact okQ_body | exact okQ_bodyS | refine okQ_then ?_ | refine okQ_block ?_)) rfl (by kernel_rfl) rfl ?_
  intro w cd; replace st := st.call0 cd; clear cd
  have hS : St _ _ [.blk b9 (.cells ([str [97], .int .i64 0, .int .i64 (s : Int), .slice (some ⟨nb2, 0, none⟩) N.length nc2] : List Value).toArray 98 (0, 0)), .blk mb (.cells ([.slice us 0 uc, .slice ul 0 lc, .slice oa65 (0 + 1) cap65, .slice (some ⟨ab, 0, none⟩) 1 1, .slice none 0 0, .slice none 0 0, .slice (some ⟨hb, 0, none⟩) 0 0, .slice none 0 0] : List Value).toArray 92 (0, 0))] w := (by exact st.drop (by repeat (first | exact sl0 | apply sl1 | apply sl2)))
  iterate 2 refine km hS ?_
  refine vk_takeU rfl rfl rfl rfl (fun _ => hS) (fun w => y_nck rfl) ?_
  refine vk_takeU rfl rfl rfl rfl (fun _ => hS) (fun w => (by exact y_faz (k := 4) rfl underlying92 rfl rfl sizeOf89 rfl)) ?_
  refine vk_takeU rfl rfl rfl rfl (fun _ => hS) (fun w => (by exact y_faz (k := 2) rfl underlying98 rfl rfl sizeOf3 rfl)) ?_
  refine vk_take rfl rfl rfl rfl hS (fun w st => (by exact y_ld st 1 rfl isAgg89 rfl rfl)) ?_
  refine vk_take rfl rfl rfl rfl hS (fun w st => (by exact y_ld st 0 rfl isAgg3 rfl rfl)) ?_
  refine vk_do rfl rfl (e_mkN (c := s) (z := .int .i64 0) st rfl rfl rfl rfl underlying90 Tryz.info2 rfl rfl rfl (by omega) (by show 8 * _ ≤ _; omega) (by unfold maxLen; omega) ?_)
  intro b76 w hb76 st; replace st := st.ownBlk; rw [iL_repl] at st
  refine vk_next (by exact st.drop (by repeat (first | exact sl0 | apply sl1 | apply sl2))) ?_; intro hS
  refine vk_do rfl rfl (e_bs1 (l := [_]) st rfl rfl rfl rfl underlying89 sizeOf90 rfl rfl rfl zeroValue90 ?_)
  intro b77 w hb77 st
  refine vk_next (by exact st.drop (by repeat (first | exact sl0 | apply sl1 | apply sl2))) ?_; intro hS
  refine vk_do rfl rfl (e_app (bytes := 24) st 2 0 rfl rfl rfl rfl rfl rfl underlying89 Tryz.info90 rfl rfl rfl rfl rfl (by simp) rfl rfl (by unfold maxLen; omega) (by omega) ?_)
  intro oa78 cap78 w st; dsimp only [setNth] at st
  refine vk_next (by exact st.drop (by repeat (first | exact sl0 | apply sl1 | apply sl2))) ?_; intro hS
  refine vk_takeU rfl rfl rfl rfl (fun _ => hS) (fun w => y_nck rfl) ?_
  refine vk_takeU rfl rfl rfl rfl (fun _ => hS) (fun w => (by exact y_faz (k := 4) rfl underlying92 rfl rfl sizeOf89 rfl)) ?_
  refine vk_do rfl rfl (est st 7 sizeOf89 ?_)
  intro w st; dsimp only [setNth, wr] at st
  refine vk_late ?_
  refine vk_end ?_
  refine vq_block (vq_then (vk5 1 7 47 48 49 (vc_region ?_)))
  refine vy (y_add rfl rfl (by simp : _ = (1 : Int)) (by omega) (by omega)) ?_
  refine ym ?_
  refine vc_end ?_
  refine vq_again (some ⟨oa65, cap65, some ⟨nb2, 0, none⟩, nc2, oa78, cap78, b76⟩)  ⟨rfl, rfl, rfl, rfl, rfl, trivial⟩ (st.pick [4, 5, 2, 1, 7, 8, 9] rfl (by decide)) ?_ ?_
  ·intro y hy; cases hy; exact hb76
  simp
 intro hc50
 try simp only [dn] at hc50
 obtain ⟨x, rfl⟩ : ∃ d, x = some d := by
  match x, hc50 with
  | none, h => simp at h
  | some d, _ => exact ⟨d, rfl⟩
 simp only [nwG, nwN, nwS, nwI, nwM] at st
 refine vc_exit (vq_then_exit (vq_then_exit (vq_block_exit (vq_then (vk2 1 7 (vc_seq (sr ?_)))))))
 refine vy (y_fa0 rfl underlying40 rfl rfl sizeOf37 rfl) ?_
 refine vy ((by exact y_ld st 6 rfl isAgg37 rfl rfl)) ?_
 refine vy (y_lensl rfl underlying37) ?_
 refine ym ?_
 refine et (vk4 7 83 84 85 (vc_block ?_))
 refine vc_once ?_
 refine sr ?_
 refine vy (y_lss rfl rfl) ?_
 refine et (vk5 7 83 84 85 86 (vc_seq ?_))
 refine vif ?_ ?_
 ·intro hc86
  exfalso; revert hc86; decide
 intro hc86
 try simp only [dn] at hc86
 refine vc_exit (vq_then_exit (vq_then_exit (vq_block_exit (vq_then (vk1 7 (vc_seq (sr ?_)))))))
 refine ym ?_
 refine ynk ?_
 refine vy ((by exact y_faz (k := 6) rfl underlying92 rfl rfl sizeOf88 rfl)) ?_
 refine vy ((by exact y_ld st 4 rfl isAgg88 rfl rfl)) ?_
 refine vy (y_lensl rfl underlying88) ?_
 refine ym ?_
 refine et (vk3 7 105 106 (vc_block ?_))
 refine vc_once ?_
 refine sr ?_
 refine vy (y_lss rfl rfl) ?_
 refine et (vk4 7 105 106 107 (vc_seq ?_))
 refine vif ?_ ?_
 ·intro hc107
  exfalso; revert hc107; decide
 intro hc107
 try simp only [dn] at hc107
 refine vc_exit (vq_then_exit (vq_then_exit (vq_block_exit (vq_then (vk1 7 (sr ?_))))))
 refine ym ?_
 iterate 2 refine ya ?_
 refine et (vk2 2 3 (vc_ret ?_))
 refine vq_ret2 st (.inl rfl) results9 (.tmp rfl) (.tmp rfl) ?_
 refine ⟨_, rfl, ?_⟩
 obtain ⟨ga, gc3, na, nc3, sa, sc3, ib⟩ := x
 simp only at st
 obtain ⟨g1, gq, hg1, -⟩ := own_form (st.res (i := 0) rfl) (by decide)
 obtain ⟨n1, nq, hn1, -⟩ := own_form (st.res (i := 1) rfl) hpos
 obtain ⟨s1, sq, hs1, -⟩ := own_form (st.res (i := 2) rfl) (by decide)
 simp only [Value.slice.injEq] at hg1 hn1 hs1
 obtain ⟨rfl, -⟩ := hg1
 obtain ⟨rfl, -⟩ := hn1
 obtain ⟨rfl, -⟩ := hs1
 have NE0 := ne3 (i := 0) (j1 := 4) (j2 := 5) (j3 := 3) st rfl rfl rfl rfl (by decide) (by decide) (by decide) (Option.mem_toList.2 rfl : g1 ∈ _)
 have NE1 := ne3 (i := 1) (j1 := 4) (j2 := 5) (j3 := 3) st rfl rfl rfl rfl (by decide) (by decide) (by decide) (Option.mem_toList.2 rfl : n1 ∈ _)
 have NE2 := ne3 (i := 2) (j1 := 4) (j2 := 5) (j3 := 3) st rfl rfl rfl rfl (by decide) (by decide) (by decide) (Option.mem_toList.2 rfl : s1 ∈ _)
 have a1 := st.bne 4 5 (by decide) rfl rfl
 have a2 := st.bne 4 3 (by decide) rfl rfl
 have a3 := st.bne 5 3 (by decide) rfl rfl
 exact ⟨st.chg, ⟨mb, ab, ib, g1, n1, s1, gc3, nc3, sc3, .slice us 0 uc, .slice ul 0 lc, .slice none 0 0, .slice (some ⟨hb, 0, none⟩) 0 0, N, s⟩, rfl, rfl, rfl, (by intro k hk; simp only [List.mem_cons, List.not_mem_nil, or_false] at hk; rcases hk with rfl | rfl | rfl <;> first | exact hmb | exact hab | exact hph _ rfl), ⟨hN, by simp [a1, a2, a3], NE0, NE1, NE2⟩, st.res (i := 4) rfl, st.res (i := 5) rfl, st.res (i := 3) rfl, ⟨fun i v h => own_cell (st.res (i := 0) rfl) h, fun i v h => own_cell (st.res (i := 1) rfl) h, own_cell (st.res (i := 2) rfl) rfl⟩⟩
end Go.Proofs.YtjoepkpdanolkaaGreatDoor


namespace Go.Proofs.YtjoepkpdanolkaaGreatDoor.Pq
open Go.RowKit Sx LexS ParS _root_.Go.Proofs.Tryz

theorem known_any (k : Int) (w : World) : Ret Tryz.prog 41 [.int .u8 k] w fun v w' => v = .bool (knownOp k) ∧ w' = w := by
 refine ret_of [_] Tryz.func41 rfl Tryz.ntmps41 rfl ?_;have st := St.init w [];refine a9 ?_;refine vmb ?_ ?_;intro hg5;(try simp only [dn] at hg5);refine a3 ?_
 rotate_left
 intro hg5;(try simp only [dn] at hg5);refine a3 ?_
 all_goals
  refine a4 ?_;refine vr1 st Tryz.results41 ?_;refine ⟨?_, rfl⟩;congr 1;unfold knownOp
  (symm; simp; omega)
theorem two_any (k : Int) (w : World) : Ret Tryz.prog 32 [.int .u8 k] w fun v w' => v = .bool (twoOp k) ∧ w' = w := by
 refine ret_of [_] Tryz.func32 rfl Tryz.ntmps32 rfl ?_;have st := St.init w [];refine a8 ?_;refine vc_e (e_call [_] rfl rfl Tryz.call41 rfl (known_any _ _) ?_);rintro _ _ ⟨rfl, rfl⟩;refine vmb ?_ ?_
 focus
  intro hg5;refine a3 ?_;refine vmb ?_ ?_;intro hg9;refine a3 ?_
  rotate_left
  intro hg9;refine a3 ?_
 rotate_left 2
 intro hg5;refine a7 ?_
 all_goals
  refine a4 ?_;refine vr1 st Tryz.results32 ?_;refine ⟨?_, rfl⟩;show Value.bool _ = Value.bool _;congr 1;unfold knownOp at *;unfold twoOp;simp only [decide_eq_true_eq, decide_eq_false_iff_not, Bool.not_eq_true', Bool.not_eq_false'] at *
  first | (symm; rw [decide_eq_false_iff_not]; omega) | (rw [Bool.eq_iff_iff]; simp only [Bool.not_eq_true', decide_eq_false_iff_not, decide_eq_true_eq]; omega)
theorem level_any (k : Int) (w : World) (hs : SigAt 0 w) : Ret Tryz.prog 38 [.int .u8 k] w fun v w' => v = .int .i64 (lvlO k) ∧ w' = w := by
 refine ret_of [_] Tryz.func38 rfl Tryz.ntmps38 rfl ?_;have st := St.init w [];refine a9 ?_;refine vc_e (e_call [_] rfl rfl Tryz.call41 rfl (known_any _ _) ?_);rintro _ _ ⟨rfl, rfl⟩;refine a3 ?_;refine vif ?_ ?_;intro hc5;refine a7 ?_;refine vr1 st Tryz.results38 ?_;refine ⟨?_, rfl⟩;unfold lvlO;rw [if_neg (by simpa using hc5)];intro hc5;have hk : 0 < k ∧ k < 19 := by simpa [knownOp] using hc5
 obtain ⟨m, rfl⟩ : ∃ m : Nat, k = (m : Int) := ⟨k.toNat, by omega⟩
 refine a5 ?_;refine vy (y_iaa (k := m) rfl rfl Tryz.underlying160 Tryz.sizeOf159 rfl (by omega)) ?_;refine vy (y_fa (k := 1) rfl Tryz.underlying159 rfl rfl Tryz.sizeOf3 rfl) ?_;refine vy ((by exact y_ldc rfl Tryz.isAgg3 (by have h := (hs m (by omega)).2; rw [Nat.zero_add]; exact h))) ?_;refine a4 ?_;refine vr1 st Tryz.results38 ?_;refine ⟨?_, rfl⟩;unfold lvlO;rw [if_pos (by simpa using hc5)];rfl
/-- no operator of two below 'j' has the sign -/
def noOp (s : List UInt8) (j : Nat) : Prop := ∀ k, k < j → (twoOp (k : Int) && decide (sgn k = s)) = false
theorem findO_at {s : List UInt8} {j : Nat} (hj : j < 19) (h : noOp s j) (h2 : twoOp (j : Int) = true) (h3 : sgn j = s) : findO s = some j := by
 unfold findO;rw [List.find?_eq_some_iff_append];refine ⟨by simp [h2, h3], List.range j, (List.range' (j + 1) (18 - j)), ?_, fun k hk => (by have := h k (by simpa using hk); show (!(twoOp (k : Int) && decide (sgn k = s))) = true; rw [this]; rfl)⟩;rw [List.range_eq_range', List.range_eq_range', show 19 = j + (19 - j) by omega, ← List.range'_append_1];rw [show 19 - j = (18 - j) + 1 by omega, List.range'_succ];simp
theorem findO_no {s : List UInt8} (h : noOp s 19) : findO s = none := by
 unfold findO;rw [List.find?_eq_none];intro k hk;have := h k (by simpa using hk);show ¬ (twoOp (k : Int) && decide (sgn k = s)) = true;rw [this]; simp
theorem noOp_step {s : List UInt8} {j : Nat} (h : noOp s j) (h2 : (twoOp (j : Int) && decide (sgn j = s)) = false) : noOp s (j + 1) := fun k hk => by
 rcases Nat.lt_or_ge k j with h1 | h1
 ·exact h k h1
 ·obtain rfl : k = j := by omega
  exact h2

theorem find_any (s : List UInt8) (w : World) (hs : SigAt 0 w) : Ret Tryz.prog 37 [str s] w fun v w' => v = .tuple [.int .u8 (((findO s).getD 0 : Nat) : Int), .bool (findO s).isSome].toArray ∧ w' = w := by
 refine ret_of [_] Tryz.func37 rfl Tryz.ntmps37 rfl ?_;have st := St.init w [];obtain ⟨w0, rfl⟩ : ∃ w0, w0 = w := ⟨_, rfl⟩
 refine a13 ?_;refine vc_loop (w0 := w0) (M := []) (fun (j : Nat) => [(0, str s), (5, .int .u8 (j : Int))]) (fun _ => []) (fun j w' => j ≤ 19 ∧ noOp s j ∧ w' = w0) (fun j => 19 - j) 0 ⟨rfl, rfl, trivial⟩ st ⟨by simp, fun k hk => by omega, rfl⟩ ?_;clear st;rintro j w ⟨hj, hno, rfl⟩ st;refine a6 ?_;refine vif ?_ ?_;intro hc6;(try simp only [dn] at hc6);refine a13 ?_;refine vc_e (e_call [_] rfl rfl Tryz.call32 rfl (two_any _ _) ?_);rintro _ _ ⟨rfl, rfl⟩;refine vmb ?_ ?_;intro hg10;(try simp only [dn] at hg10);refine a1 ?_;refine vy (y_iaa (k := j) rfl rfl Tryz.underlying160 Tryz.sizeOf159 rfl (by omega)) ?_;refine vy (y_fa0 rfl Tryz.underlying159 rfl rfl Tryz.sizeOf9 rfl) ?_;refine vy ((by exact y_ldc rfl Tryz.isAgg9 (by have h := (hs j (by omega)).1; rw [Nat.zero_add]; exact h))) ?_;refine a5 ?_;refine vif ?_ ?_;intro hc17;(try simp only [dn] at hc17);refine a13 ?_;refine vq_ret2 st (.inl rfl) Tryz.results37 (.tmp rfl) (.tmp rfl) ?_;refine ⟨_, rfl, ?_⟩;have he : findO s = some j := findO_at (by omega) hno (by simp_all) (by simp_all);rw [he];exact ⟨rfl, rfl⟩;intro hc17;(try simp only [dn] at hc17);refine a4 ?_;refine vy (y_addk rfl rfl (by rw [wrap_u8]; omega : _ = ((j + 1 : Nat) : Int))) ?_;refine a2 ?_;refine vq_again (j + 1)  ⟨rfl, rfl, trivial⟩ st ?_ ?_;exact ⟨by omega, noOp_step hno (by simp_all), rfl⟩;omega;intro hg10;(try simp only [dn] at hg10);refine a14 ?_;refine vy (y_addk rfl rfl (by rw [wrap_u8]; omega : _ = ((j + 1 : Nat) : Int))) ?_;refine a2 ?_;refine vq_again (j + 1)  ⟨rfl, rfl, trivial⟩ st ?_ ?_;exact ⟨by omega, noOp_step hno (by simp_all), rfl⟩;omega;intro hc6;(try simp only [dn] at hc6);refine a12 ?_;refine vq_ret2 st (.inl rfl) Tryz.results37 (.tmp rfl) (.tmp rfl) ?_;refine ⟨_, rfl, ?_⟩;obtain rfl : j = 19 := by omega
 have he : findO s = none := findO_no hno;rw [he];exact ⟨rfl, rfl⟩
end Go.Proofs.YtjoepkpdanolkaaGreatDoor.Pq


namespace Go.Proofs.YtjoepkpdanolkaaGreatDoor.Pq
open Go.RowKit Sx LexS ParS _root_.Go.Proofs.Tryz

theorem phere_any (c : PCtx) (r : List Tok) (hr : r <:+ c.ts) (w : World) (hC : PCok c w) (hP : PAt c r w) : Ret Tryz.prog 36 [.pointer (some ⟨c.pb, 0, none⟩)] w fun v w' => v = .agg (tkL (here r)).toArray ∧ Chg [] w w' := by
 obtain ⟨pb, n0, oa, cap, ts, e, TT, R, g⟩ := c;dsimp only [PAt, pcell] at hr hP ⊢;refine ret_of [_] Tryz.func36 rfl Tryz.ntmps36 rfl ?_;obtain ⟨w0, rfl⟩ : ∃ w0, w0 = w := ⟨_, rfl⟩
 have st := St.of1 [] hP;refine sr ?_;refine vc_e (e_al (l := [_, _, _, _]) st rfl rfl Tryz.zeroValue65 rfl ?_);intro b2 w hb2 st;refine et (vc_seq (vc_seq ?_));refine vdr0 Tryz.mixed [Yt 0, Yt 1, Yt 2, Yt 3, Yt 4, Yt 5, Yt 6, Yt 7, Yt 8, Yt 9] st ?_;clear st; intro w st hS;refine pm hS ?_;refine pnk hS ?_;refine pfz hS 1 Tryz.underlying73 Tryz.sizeOf3 ?_;refine pld hS 1 Tryz.isAgg3 ?_;refine pm hS ?_;refine pnk hS ?_;refine pf0 hS Tryz.underlying73 Tryz.sizeOf59 ?_;refine pld hS 1 Tryz.isAgg59 ?_;refine vp_take rfl rfl rfl hS (fun w st => y_lensl rfl Tryz.underlying59) ?_;refine vp_take rfl rfl rfl hS (fun w st => y_lss rfl rfl) ?_;refine vp_end (vq_then ?_);refine vif ?_ ?_;intro hc12;(try simp only [dn] at hc12);have hne : r ≠ [] := by rintro rfl; simp at hc12
 obtain ⟨tb, tq, hoa, hc⟩ := hC.tok hr hne;have hlt := (suf_get hr hne).2;dsimp only at hoa hc hlt;subst hoa;refine vc_seq ?_;refine vdr Tryz.mixed [Yt 0, Yt 1, Yt 2, Yt 3, Yt 4, Yt 5, Yt 6, Yt 7, Yt 8, Yt 9, Nt 10] [.blk pb (.cells [.slice (some ⟨tb, tq, none⟩) ts.length cap, .int .i64 ((ts.length - r.length : Nat) : Int), .int .i64 (e : Int)].toArray TT (0, 0))] st ?_;clear st; intro w st hS;refine pm hS ?_;refine pnk hS ?_;refine pf0 hS Tryz.underlying73 Tryz.sizeOf59 ?_;refine pld hS 0 Tryz.isAgg59 ?_;refine pm hS ?_;refine pnk hS ?_;refine pfz hS 1 Tryz.underlying73 Tryz.sizeOf3 ?_;refine pld hS 0 Tryz.isAgg3 ?_;refine vp_take rfl rfl rfl hS (fun w st => y_ia (k := (ts.length - r.length)) rfl rfl Tryz.underlying59 Tryz.sizeOf65 rfl (hlt)) ?_;refine vp_take rfl rfl rfl hS (fun w st => y_ldca (tkL (here r)) rfl Tryz.isAgg65 Tryz.sizeOf65 rfl (fun i v hi => st.chg.cell (hc i v hi) (by simp))) ?_;refine vp_do rfl (ests st 0 [_, _, _, _] Tryz.sizeOf65 ?_);intro w st; dsimp only [setNth, wr] at st;refine vp_next st.dr ?_; intro hS;refine vp_end (vq_then (vc_ret (vq_then_ret ?_)));refine vq_ret1 st (.inl rfl) Tryz.results36 (by exact .cell 0 rfl rfl Tryz.isAgg65 Tryz.sizeOf65) ?_;refine ⟨_, rfl, ?_⟩;exact ⟨rfl, st.chg⟩;intro hc12;(try simp only [dn] at hc12);have h0 : r.length = 0 := by have := suf_len hr; omega
 refine kt (sr ?_);refine vy (ybd (.agg #[_, _, _, _]) []) ?_;refine vc_e (ests st 0 [_, _, _, _] Tryz.sizeOf65 ?_);intro w st; dsimp only [setNth, wr] at st;refine et (vc_ret ?_);refine vq_ret1 st (.inl rfl) Tryz.results36 (by exact .cell 0 rfl rfl Tryz.isAgg65 Tryz.sizeOf65) ?_;refine ⟨_, rfl, ?_⟩;rw [here_nil h0]; exact ⟨rfl, st.chg⟩
theorem pat_any (c : PCtx) (r : List Tok) (hr : r <:+ c.ts) (w : World) (hC : PCok c w) (hP : PAt c r w) : Ret Tryz.prog 40 [.pointer (some ⟨c.pb, 0, none⟩)] w fun v w' => v = .int .i64 (atT c.e r : Int) ∧ Chg [] w w' := by
 obtain ⟨pb, n0, oa, cap, ts, e, TT, R, g⟩ := c;dsimp only [PAt, pcell] at hr hP ⊢;refine ret_of [_] Tryz.func40 rfl Tryz.ntmps40 rfl ?_;obtain ⟨w0, rfl⟩ : ∃ w0, w0 = w := ⟨_, rfl⟩
 have st := St.of1 [] hP;refine sr ?_;refine ya ?_;refine et (vc_seq (vc_seq ?_));refine vdr0 Tryz.mixed [Yt 0, Yt 1, Yt 2, Yt 3, Yt 4, Yt 5, Yt 6, Yt 7, Yt 8, Yt 9] st ?_;clear st; intro w st hS;refine pm hS ?_;refine pnk hS ?_;refine pfz hS 1 Tryz.underlying73 Tryz.sizeOf3 ?_;refine pld hS 0 Tryz.isAgg3 ?_;refine pm hS ?_;refine pnk hS ?_;refine pf0 hS Tryz.underlying73 Tryz.sizeOf59 ?_;refine pld hS 0 Tryz.isAgg59 ?_;refine vp_take rfl rfl rfl hS (fun w st => y_lensl rfl Tryz.underlying59) ?_;refine vp_take rfl rfl rfl hS (fun w st => y_lss rfl rfl) ?_;refine vp_end (vq_then ?_);refine vif ?_ ?_;intro hc12;(try simp only [dn] at hc12);have hne : r ≠ [] := by rintro rfl; simp at hc12
 obtain ⟨tb, tq, hoa, hc⟩ := hC.tok hr hne;have hlt := (suf_get hr hne).2;dsimp only at hoa hc hlt;subst hoa;refine vc_seq ?_;refine vdr0 Tryz.mixed [Yt 0, Yt 1, Yt 2, Yt 3, Yt 4, Yt 5, Yt 6, Yt 7, Yt 8, Yt 9, Yt 10, Yt 11] st ?_;clear st; intro w st hS;refine pm hS ?_;refine pnk hS ?_;refine pf0 hS Tryz.underlying73 Tryz.sizeOf59 ?_;refine pld hS 0 Tryz.isAgg59 ?_;refine pm hS ?_;refine pnk hS ?_;refine pfz hS 1 Tryz.underlying73 Tryz.sizeOf3 ?_;refine pld hS 0 Tryz.isAgg3 ?_;refine vp_take rfl rfl rfl hS (fun w st => y_ia (k := (ts.length - r.length)) rfl rfl Tryz.underlying59 Tryz.sizeOf65 rfl (hlt)) ?_;refine vp_take rfl rfl rfl hS (fun w st => y_fa (k := 3) rfl Tryz.underlying65 rfl rfl Tryz.sizeOf3 rfl) ?_;refine vp_take rfl rfl rfl hS (fun w st => y_ldc rfl Tryz.isAgg3 (st.chg.cell (hc 3 _ rfl) (by simp))) ?_;refine vp_take rfl rfl rfl hS (fun w st => y_as rfl) ?_;refine vp_end (vq_then (vc_ret (vq_then_ret ?_)));refine vr1 st Tryz.results40 ?_;rw [atT_cons hne]; exact ⟨rfl, st.chg⟩;intro hc12;(try simp only [dn] at hc12);have h0 : r.length = 0 := by have := suf_len hr; omega
 refine kt (sr ?_);refine ym ?_;refine ynk ?_;refine yfz 2 Tryz.underlying73 Tryz.sizeOf3 ?_;refine yl st 0 Tryz.isAgg3 ?_;refine ya ?_;refine et (vc_ret ?_);refine vr1 st Tryz.results40 ?_;rw [atT_nil h0]; exact ⟨rfl, st.chg⟩
theorem pis_any (c : PCtx) (s : List UInt8) (r : List Tok) (hr : r <:+ c.ts) (w : World) (hC : PCok c w) (hP : PAt c r w) : Ret Tryz.prog 87 [.pointer (some ⟨c.pb, 0, none⟩), str s] w fun v w' => v = .bool (isT s r) ∧ Chg [] w w' := by
 refine ret_of [_, _] Tryz.func87 rfl Tryz.ntmps87 rfl ?_;have st := St.init w [];obtain ⟨w0, rfl⟩ : ∃ w0, w0 = w := ⟨_, rfl⟩
 refine sr ?_;refine ya ?_;refine et (sr ?_);refine ym ?_;refine vc_e (e_call [_] rfl rfl Tryz.call36 rfl (phere_any c r hr _ hC hP) ?_);rintro _ w ⟨rfl, cw⟩;replace st := st.call0 cw;refine vc_e (e_al (l := [_, _, _, _]) st rfl rfl Tryz.zeroValue65 rfl ?_);intro b5 w hb5 st;refine vc_e (ests st 0 [_, _, _, _] Tryz.sizeOf65 ?_);intro w st; dsimp only [setNth, wr] at st;refine et (sr ?_);refine yfz 1 Tryz.underlying65 Tryz.sizeOf9 ?_;refine yl st 0 Tryz.isAgg9 ?_;refine ym ?_;refine vy (y_eqs rfl rfl) ?_;refine vmb ?_ ?_
 focus
  intro hg12;(try simp only [dn] at hg12);refine vy (y_fa0 rfl Tryz.underlying65 rfl rfl Tryz.sizeOf63 rfl) ?_;refine yl st 0 Tryz.isAgg63 ?_;refine vy (y_eqi rfl rfl) ?_;refine vmb ?_ ?_;intro hg16;(try simp only [dn] at hg16);(iterate 3 refine vsk ?_);refine ypt ?_
  rotate_left
  intro hg16;(try simp only [dn] at hg16);refine vy (y_fa0 rfl Tryz.underlying65 rfl rfl Tryz.sizeOf63 rfl) ?_;refine yl st 0 Tryz.isAgg63 ?_;refine vy (y_eqi rfl rfl) ?_;refine ypf ?_
  all_goals
   refine a1 ?_
 rotate_left 2
 intro hg12;(try simp only [dn] at hg12);(iterate 8 refine vsk ?_);refine ypf ?_
 all_goals
  refine ya ?_;refine et (vc_ret ?_);refine vr1 st Tryz.results87 ?_;have hk2 : ((here r).kind : Int) = 2 ↔ (here r).kind = 2 := by omega
  have hk4 : ((here r).kind : Int) = 4 ↔ (here r).kind = 4 := by omega
  refine ⟨?_, st.chg⟩;unfold isT
  simp_all
theorem ptake_any (c : PCtx) (s : List UInt8) (r : List Tok) (hr : r <:+ c.ts) (w : World) (hC : PCok c w) (hP : PAt c r w) : Ret Tryz.prog 90 [.pointer (some ⟨c.pb, 0, none⟩), str s] w fun v w' => v = .bool (isT s r) ∧ PAt c (if isT s r = true then r.tail else r) w' ∧ Chg [c.pb] w w' := by
 refine ret_of [_, _] Tryz.func90 rfl Tryz.ntmps90 rfl ?_;obtain ⟨w0, rfl⟩ : ∃ w0, w0 = w := ⟨_, rfl⟩
 have hP' := hP;dsimp only [PAt, pcell] at hP;have st := St.of1 [c.pb] hP;have h20 := hC.len;have hl := suf_len hr;refine sr ?_;refine ya ?_;refine et (vc_seq (sr ?_));(iterate 2 refine ym ?_);refine vc_e (e_call [_, _] rfl rfl Tryz.call87 rfl (pis_any c s r hr _ hC hP') ?_);rintro _ w ⟨rfl, cw⟩;replace st := st.call0 cw;refine vy (y_not rfl) ?_;refine et ?_;refine vif ?_ ?_;intro hc8;(try simp only [dn] at hc8);have hF : isT s r = false := by simpa using hc8
 refine sr ?_;refine ya ?_;refine et (vc_ret (vq_then_ret ?_));refine vr1 st Tryz.results90 ?_;rw [hF];exact ⟨rfl, st.res (i := 0) rfl, st.chg⟩;intro hc8;(try simp only [dn] at hc8);have hT : isT s r = true := by simpa using hc8
 have ht := tail_lt (isT_ne hT);have ht2 : r.tail.length = r.length - 1 := List.length_tail;refine kt (sr ?_);refine ym ?_;refine ynk ?_;refine yfz 1 Tryz.underlying73 Tryz.sizeOf3 ?_;refine yl st 0 Tryz.isAgg3 ?_;refine vy (yin ((c.ts.length - r.tail.length : Nat) : Int)) ?_;refine ynk ?_;refine yfz 1 Tryz.underlying73 Tryz.sizeOf3 ?_;refine vc_e (est st 0 Tryz.sizeOf3 ?_);intro w st; dsimp only [setNth, wr] at st;refine et ((sr ?_));refine ya ?_;refine et (vc_ret ?_);refine vr1 st Tryz.results90 ?_;rw [hT];exact ⟨rfl, st.res (i := 0) rfl, st.chg⟩
theorem pnext_any (c : PCtx) (r : List Tok) (hr : r <:+ c.ts) (hne : r ≠ []) (w : World) (hC : PCok c w) (hP : PAt c r w) : Ret Tryz.prog 39 [.pointer (some ⟨c.pb, 0, none⟩)] w fun v w' => v = .agg (tkL (here r)).toArray ∧ PAt c r.tail w' ∧ Chg [c.pb] w w' := by
 refine ret_of [_] Tryz.func39 rfl Tryz.ntmps39 rfl ?_;obtain ⟨w0, rfl⟩ : ∃ w0, w0 = w := ⟨_, rfl⟩
 have hP' := hP;dsimp only [PAt, pcell] at hP;have st := St.of1 [c.pb] hP;have h20 := hC.len;have hl := suf_len hr;have ht := tail_lt hne;have ht2 : r.tail.length = r.length - 1 := List.length_tail;replace st := st.call0 (Chg.refl _ _);have stP := hP';refine sr ?_;refine vc_e (e_al (l := [_, _, _, _]) st rfl rfl Tryz.zeroValue65 rfl ?_);intro b2 w hb2 st;refine et (sr ?_);refine ym ?_;refine vc_e (e_call [_] rfl rfl Tryz.call36 rfl (phere_any c r hr _ (hC.k1 st.chg) (st.res (i := 1) rfl)) ?_);rintro _ w ⟨rfl, cw⟩;replace st := st.call0 cw;refine vc_e (e_al (l := [_, _, _, _]) st rfl rfl Tryz.zeroValue65 rfl ?_);intro b3 w hb3 st;refine vc_e (ests st 0 [_, _, _, _] Tryz.sizeOf65 ?_);intro w st; dsimp only [setNth, wr] at st;refine et (sr ?_);refine ym ?_;refine ynk ?_;refine yfz 1 Tryz.underlying73 Tryz.sizeOf3 ?_;refine yl st 2 Tryz.isAgg3 ?_;refine vy (yin ((c.ts.length - r.tail.length : Nat) : Int)) ?_;refine ynk ?_;refine yfz 1 Tryz.underlying73 Tryz.sizeOf3 ?_;refine vc_e (est st 2 Tryz.sizeOf3 ?_);intro w st; dsimp only [setNth, wr] at st;refine et (sr ?_);refine yla st 0 [_, _, _, _] Tryz.isAgg65 Tryz.sizeOf65 ?_;refine vc_e (ests st 1 [_, _, _, _] Tryz.sizeOf65 ?_);intro w st; dsimp only [setNth, wr] at st;refine et (vc_ret ?_);refine vq_ret1 st (.inl rfl) Tryz.results39 (by exact .cell 1 rfl rfl Tryz.isAgg65 Tryz.sizeOf65) ?_;refine ⟨_, rfl, ?_⟩;exact ⟨rfl, st.res (i := 2) rfl, st.chg⟩
theorem pfail_any (c : PCtx) (rule : Nat) (r : List Tok) (hr : r <:+ c.ts) (w : World) (hC : PCok c w) (hP : PAt c r w) (hR : c.R = 70) : RetP Tryz.prog 20 [.pointer (some ⟨c.pb, 0, none⟩), .int .i64 (rule : Int)] w (fun _ _ => False) (fun v w' => v = refV c (atT c.e r, rule) ∧ Chg [] w w') := by
 refine retp_of [_, _] Tryz.func20 rfl Tryz.ntmps20 rfl ?_;have st := St.init w [];obtain ⟨w0, rfl⟩ : ∃ w0, w0 = w := ⟨_, rfl⟩
 refine vc_region ?_;refine ym ?_;refine vc_e (e_call [_] rfl rfl Tryz.call40 rfl (pat_any c r hr _ hC hP) ?_);rintro _ w ⟨rfl, cw⟩;replace st := st.call0 cw;refine ym ?_;refine vy (ybd (.agg #[_, _]) [(0, _), (1, _)]) ?_;refine vy (ybd (.agg #[_, _]) [(0, _)]) ?_;refine vy (y_mki rfl Tryz.underlying70) ?_;refine vc_e (e_panicI rfl rfl (fun a ha => And.intro ha (Or.inr ⟨_, rfl, by rw [refV, hR], st.chg⟩)))
theorem pwant_any (c : PCtx) (ss : List (List UInt8)) (hss : ss.length ≤ 4) (lb n cap E : Nat) (hn : n = ss.length) (r : List Tok) (hr : r <:+ c.ts) (w : World) (hC : PCok c w) (hP : PAt c r w) (hR : c.R = 70)
    (hL : w.heap[lb]? = some (.cells (ss.map str).toArray E (0, 0))) (hne : lb ≠ c.pb) : RetP Tryz.prog 88 [.pointer (some ⟨c.pb, 0, none⟩), .slice (some ⟨lb, 0, none⟩) n cap] w
  (fun v w' => ∃ r', wantL c.e ss r = .ok r' ∧ r' <:+ r ∧ r'.length + ss.length ≤ r.length ∧ PAt c r' w' ∧ Chg [c.pb] w w') (PErr c (wantL c.e ss r) [c.pb] w) := by
 refine retp_of [_, _] Tryz.func88 rfl Tryz.ntmps88 rfl ?_;obtain ⟨w0, rfl⟩ : ∃ w0, w0 = w := ⟨_, rfl⟩
 subst hn;have hP' := hP;dsimp only [PAt, pcell] at hP;have st := St.of1 [c.pb] hP;have h20 := hC.len;have hl := suf_len hr;refine sr ?_;refine ym ?_;refine vy (y_lensl rfl Tryz.underlying188) ?_;refine ym ?_;refine et (vc_block ?_);refine vc_loop (w0 := w0) (M := [c.pb]) (fun (y : Nat × List Tok) => [(0, .pointer (some ⟨c.pb, 0, none⟩)), (6, .slice (some ⟨lb, 0, none⟩) ss.length cap), (7, .int .i64 (ss.length : Int)), (8, .int .i64 (y.1 : Int))]) (fun y => [.blk c.pb (.cells (pcell c y.2).toArray c.T (0, 0))]) (fun y _ => y.1 ≤ ss.length ∧ y.2 <:+ r ∧ y.2.length + y.1 ≤ r.length ∧ wantL c.e ss r = wantL c.e (ss.drop y.1) y.2) (fun y => ss.length - y.1) (0, r) ⟨rfl, rfl, rfl, rfl, trivial⟩ st ⟨by simp, List.suffix_refl _, by simp, by simp⟩ ?_;clear st;rintro ⟨j, r1⟩ w ⟨hj, hr1, hl1, hw⟩ st;dsimp only at hj hr1 hl1 hw st;refine sr ?_;refine vy (y_lss rfl rfl) ?_;refine et (vc_seq ?_);refine vif ?_ ?_;intro hc9;(try simp only [dn] at hc9);have hjl : j < ss.length := by omega
 obtain ⟨s, hs⟩ : ∃ s, ss[j]? = some s := ⟨_, List.getElem?_eq_getElem hjl⟩
 have hcell : w0.cell? ⟨lb, j * 1, none⟩ = some (str s) := cell_blk hL (by rw [nth_eq, Nat.mul_one]; simp [hs]);have hd : ss.drop j = s :: ss.drop (j + 1) := by rw [List.drop_eq_getElem_cons hjl]; congr 1; rw [List.getElem?_eq_getElem hjl] at hs; exact Option.some.inj hs
 rw [hd] at hw;have hr2 := hr1.trans hr;refine kt (vc_seq (vc_block (sr ?_)));refine vy (y_ia0 (k := j) rfl rfl Tryz.underlying188 Tryz.sizeOf9 rfl (by omega)) ?_;refine vy (y_ldc rfl Tryz.isAgg9 (st.chg.cell hcell (by simpa using hne))) ?_;refine ya ?_;refine et (sr ?_);(iterate 2 refine ym ?_);refine vc_e (e_call [_, _] rfl rfl Tryz.call90 rfl (ptake_any c s r1 hr2 _ (hC.k1 st.chg) (st.res (i := 0) rfl)) ?_);rintro _ w ⟨rfl, hP1, cw⟩;replace st := st.prs 0 rfl cw (.inl (.head _)) hP1;dsimp only [setNth] at st;refine vy (y_not rfl) ?_;refine et ?_;refine vif ?_ ?_;intro hc15;(try simp only [dn] at hc15);have hF : isT s r1 = false := by simpa using hc15
 simp only [hF, Bool.false_eq_true, if_false] at st;refine vc_region ?_;refine ym ?_;refine vc_e (e_callp [_, _] rfl rfl Tryz.call20 rfl (pfail_any c 2 r1 hr2 _ (hC.k1 st.chg) (st.res (i := 0) rfl) hR) (by rintro _ w' ⟨rfl, ch⟩ a ha; exact And.intro ha (Or.inr ⟨_, rfl, (atT c.e r1, 2), by rw [hw]; simp only [wantL, want_neg hF], rfl, st.chg.trans ch.of_nil⟩)) (fun _ _ h => h.elim));intro hc15;(try simp only [dn] at hc15);have hT : isT s r1 = true := by simpa using hc15
 simp only [hT, if_true] at st;have ht := tail_lt (isT_ne hT);refine vc_code_skip (vq_block (vq_then (vc_region ?_)));refine vy (yin ((j + 1 : Nat) : Int)) ?_;refine ym ?_;refine vc_end ?_;refine vq_again (j + 1, r1.tail)  ⟨rfl, rfl, rfl, rfl, trivial⟩ st ?_ ?_;exact ⟨by dsimp only; omega, (List.tail_suffix _).trans hr1, by dsimp only; omega, by rw [hw]; simp only [wantL, want_pos hT]⟩;dsimp only; omega;intro hc9;(try simp only [dn] at hc9);refine vc_exit (vq_then_exit (vq_then_exit (vq_block_exit ?_)));refine vq_ret0 (.inr rfl) Tryz.results88 ?_;refine .inl ⟨_, rfl, ?_⟩;obtain rfl : j = ss.length := by omega
 rw [List.drop_length] at hw;exact ⟨r1, hw, hr1, hl1, st.res (i := 0) rfl, st.chg⟩
end Go.Proofs.YtjoepkpdanolkaaGreatDoor.Pq


namespace Go.Proofs.YtjoepkpdanolkaaGreatDoor.Pq
open Go.RowKit Sx LexS ParS _root_.Go.Proofs.Tryz
theorem Tryz.info95 : Tryz.prog.info? 95 = some Tryz.t95 := by kernel_rfl

theorem pname_any (c : PCtx) (hR : c.R = 70) (r : List Tok) (hr : r <:+ c.ts) (w : World) (hC : PCok c w) (hP : PAt c r w) : RetP Tryz.prog 120 [.pointer (some ⟨c.pb, 0, none⟩)] w
    (PRes c r (nameP c.e r) [c.pb] w fun t v _ => v = .agg (tkL t).toArray) (PErr c (nameP c.e r) [c.pb] w) := by
 refine retp_of [_] Tryz.func120 rfl Tryz.ntmps120 rfl ?_;obtain ⟨w0, rfl⟩ : ∃ w0, w0 = w := ⟨_, rfl⟩
 have hP' := hP;dsimp only [PAt, pcell] at hP;have st := St.of1 [c.pb] hP;have h20 := hC.len;have hl := suf_len hr;refine a2 ?_;refine vc_e (e_al (l := [_, _, _, _]) st rfl rfl Tryz.zeroValue65 rfl ?_);intro b2 w hb2 st;refine a6 ?_;refine vc_e (e_call [_] rfl rfl Tryz.call36 rfl (phere_any c r hr _ (hC.k1 st.chg) (by exact st.rs 1)) ?_);rintro _ w ⟨rfl, cw⟩;replace st := st.call0 cw;refine vy (y_fld rfl Tryz.underlying65 rfl rfl Tryz.isAgg63 rfl) ?_;refine a3 ?_;refine vif ?_ ?_;intro hc6;(try simp only [dn] at hc6);have hk : ¬ (here r).kind = 1 := by omega
 have hs : nameP c.e r = fail c.e 2 r := by unfold nameP; rw [if_neg hk]
 refine a2 ?_;refine vc_e (e_callp [_, _] rfl rfl Tryz.call20 rfl (pfail_any c 2 r hr _ (hC.k1 st.chg) (by exact st.rs 1) hR) (by rintro _ w' ⟨rfl, ch⟩ a ha; exact And.intro ha (Or.inr ⟨_, rfl, (atT c.e r, 2), by rw [hs]; rfl, rfl, st.chg.trans ch.of_nil⟩)) (fun _ _ h => h.elim));intro hc6;(try simp only [dn] at hc6);have hk : (here r).kind = 1 := by omega
 have hs : nameP c.e r = .ok (here r, r.tail) := by unfold nameP; rw [if_pos hk]
 have hne := kind_ne hk (by decide);have hlt := tail_lt hne;refine a5 ?_;refine vc_e (e_call [_] rfl rfl Tryz.call39 rfl (pnext_any c r hr hne _ (hC.k1 st.chg) (by exact st.rs 1)) ?_);rintro _ w ⟨rfl, hP1, cw⟩;replace st := St.prs (b := c.pb) st 1 rfl cw (.inl (.head _)) hP1;dsimp only [setNth] at st;refine vc_e (ests st 0 [_, _, _, _] Tryz.sizeOf65 ?_);intro w st; dsimp only [setNth, wr] at st;refine a3 ?_;refine vq_ret1 st (.inl rfl) Tryz.results120 (by exact .cell 0 rfl rfl Tryz.isAgg65 Tryz.sizeOf65) ?_;refine .inl ⟨_, rfl, ?_⟩;exact ⟨_, _, hs, List.tail_suffix _, hlt, (by exact st.rs 1), st.chg, rfl⟩
theorem pdecl_any (c : PCtx) (hR : c.R = 70) (r : List Tok) (hr : r <:+ c.ts) (w : World) (hC : PCok c w) (hP : PAt c r w) : RetP Tryz.prog 93 [.pointer (some ⟨c.pb, 0, none⟩)] w
    (PRes c r (declP c.e r) [c.pb] w fun d v _ => v = .agg (dcL d).toArray) (PErr c (declP c.e r) [c.pb] w) := by
 refine retp_of [_] Tryz.func93 rfl Tryz.ntmps93 rfl ?_;obtain ⟨w0, rfl⟩ : ∃ w0, w0 = w := ⟨_, rfl⟩
 have hP' := hP;dsimp only [PAt, pcell] at hP;have st := St.of1 [c.pb] hP;have h20 := hC.len;have hl := suf_len hr;have hs := declP.eq_1 c.e r;refine a2 ?_;refine vc_e (e_al (l := [_, _, _]) st rfl rfl Tryz.zeroValue95 rfl ?_);intro b2 w hb2 st;refine a5 ?_;refine vc_e (e_callp [_] rfl rfl Tryz.call120 rfl (pname_any c hR r hr _ (hC.k1 st.chg) (by exact st.rs 1)) (by rintro _ w' ⟨f, hf, rfl, ch⟩ a ha; exact And.intro ha (Or.inr ⟨_, rfl, f, by rw [hs, hf], rfl, st.chg.trans ch⟩)) ?_);rintro _ w ⟨t, r1, hx, hsf, hln, hP1, cw, rfl⟩;replace st := St.prs (b := c.pb) st 1 rfl cw (.inl (.head _)) hP1;rw [hx] at hs; dsimp only at hs;have hr1 := hsf.trans hr;refine vc_e (e_al (l := [_, _, _, _]) st rfl rfl Tryz.zeroValue65 rfl ?_);intro b3 w hb3 st;refine vc_e (ests st 0 [_, _, _, _] Tryz.sizeOf65 ?_);intro w st;refine a4 ?_;refine yfz 1 Tryz.underlying65 Tryz.sizeOf9 ?_;refine yl st 0 Tryz.isAgg9 ?_;refine yfz 3 Tryz.underlying65 Tryz.sizeOf3 ?_;refine yl st 0 Tryz.isAgg3 ?_;refine vy (ybd (.agg #[_, _, _]) [(0, _), (2, _)]) ?_;refine vc_e (ests st 1 [_, _, _] Tryz.sizeOf95 ?_);intro w st;refine a3 ?_;refine vq_ret1 st (.inl rfl) Tryz.results93 (by exact .cell 1 rfl rfl Tryz.isAgg95 Tryz.sizeOf95) ?_;refine .inl ⟨_, rfl, ?_⟩;exact ⟨_, _, hs, hsf, hln, (by exact st.rs 2), st.chg, rfl⟩
theorem pinit_any (c : PCtx) (hR : c.R = 70) (r : List Tok) (hr : r <:+ c.ts) (w : World) (hC : PCok c w) (hP : PAt c r w) : RetP Tryz.prog 92 [.pointer (some ⟨c.pb, 0, none⟩)] w
    (PRes c r (initP c.e r) [c.pb] w fun d v _ => v = .agg (dcL d).toArray) (PErr c (initP c.e r) [c.pb] w) := by
 refine retp_of [_] Tryz.func92 rfl Tryz.ntmps92 rfl ?_;obtain ⟨w0, rfl⟩ : ∃ w0, w0 = w := ⟨_, rfl⟩
 have hP' := hP;dsimp only [PAt, pcell] at hP;have st := St.of1 [c.pb] hP;have h20 := hC.len;have hl := suf_len hr;have hs := initP.eq_1 c.e r;unfold declP at *;refine a2 ?_;refine vc_e (e_al (l := [_, _, _]) st rfl rfl Tryz.zeroValue95 rfl ?_);intro b2 w hb2 st;refine a5 ?_;refine vc_e (e_callp [_] rfl rfl Tryz.call93 rfl (pdecl_any c hR r hr _ (hC.k1 st.chg) (by exact st.rs 1)) (by rintro _ w' ⟨f, hf, rfl, ch⟩ a ha; exact And.intro ha (Or.inr ⟨_, rfl, f, (by rw [hs]; unfold declP at hf; cases hn : nameP c.e r with | error g => rw [hn] at hf; exact hf | ok q => rw [hn] at hf; cases hf), rfl, st.chg.trans ch⟩)) ?_);rintro _ w ⟨d, r1, hx, hsf, hln, hP1, cw, rfl⟩;replace st := St.prs (b := c.pb) st 1 rfl cw (.inl (.head _)) hP1;dsimp only [setNth] at st
 obtain ⟨t, hn, rfl⟩ : ∃ t, nameP c.e r = .ok (t, r1) ∧ d = ⟨t.text, 0, (t.at_ : Int)⟩ := by
  unfold declP at hx
  cases hn : nameP c.e r with
  | error g => rw [hn] at hx; cases hx
  | ok q => rw [hn] at hx; cases hx; exact ⟨q.1, rfl, rfl⟩
 rw [hn] at hs; dsimp only at hs;have hr1 := hsf.trans hr;refine vc_e (e_al (l := [_, _, _]) st rfl rfl Tryz.zeroValue95 rfl ?_);intro b3 w hb3 st;refine vc_e (ests st 0 [_, _, _] Tryz.sizeOf95 ?_);intro w st; dsimp only [setNth, wr] at st;refine a6 ?_;refine vc_e (e_call [_, _] rfl rfl Tryz.call90 rfl (ptake_any c [61] r1 hr1 _ (hC.k1 st.chg) (by exact st.rs 2)) ?_);rintro _ w ⟨rfl, hP1, cw⟩;replace st := St.prs (b := c.pb) st 2 rfl cw (.inl (.head _)) hP1;dsimp only [setNth] at st;refine a3 ?_;refine vif ?_ ?_;intro hc9;(try simp only [dn] at hc9);have hF : isT [61] r1 = false := by simpa using hc9
 simp only [hF, Bool.false_eq_true, if_false] at st hs;refine a2 ?_;refine yla st 0 [_, _, _] Tryz.isAgg95 Tryz.sizeOf95 ?_;refine vc_e (ests st 1 [_, _, _] Tryz.sizeOf95 ?_);intro w st; dsimp only [setNth, wr] at st;refine a4 ?_;refine vq_ret1 st (.inl rfl) Tryz.results92 (by exact .cell 1 rfl rfl Tryz.isAgg95 Tryz.sizeOf95) ?_;refine .inl ⟨_, rfl, ?_⟩;exact ⟨_, _, hs, hsf, hln, (by exact st.rs 2), st.chg, rfl⟩;intro hc9;(try simp only [dn] at hc9);have hT : isT [61] r1 = true := by simpa using hc9
 simp only [hT, if_true] at st hs;have ht := tail_lt (isT_ne hT);have hr2 := suf_tail hr1;refine a5 ?_;refine vc_e (e_call [_, _] rfl rfl Tryz.call90 rfl (ptake_any c [45] r1.tail hr2 _ (hC.k1 st.chg) (by exact st.rs 2)) ?_);rintro _ w ⟨rfl, hP1, cw⟩;replace st := St.prs (b := c.pb) st 2 rfl cw (.inl (.head _)) hP1;dsimp only [setNth] at st;obtain ⟨r3, hr3e⟩ : ∃ r3, r3 = (if isT [45] r1.tail = true then r1.tail.tail else r1.tail) := ⟨_, rfl⟩
 have hsf3 : r3 <:+ r1.tail := by rw [hr3e]; split; exact List.tail_suffix _; exact List.suffix_refl _
 rw [← hr3e] at st hs;have hr3 := hsf3.trans hr2;unfold wordP at hs;refine a7 ?_;refine vc_e (e_call [_] rfl rfl Tryz.call36 rfl (phere_any c r3 hr3 _ (hC.k1 st.chg) (by exact st.rs 2)) ?_);rintro _ w ⟨rfl, cw⟩;replace st := st.call0 cw;refine vy (y_fld rfl Tryz.underlying65 rfl rfl Tryz.isAgg63 rfl) ?_;refine a3 ?_;refine vif ?_ ?_;intro hc16;(try simp only [dn] at hc16);have hk : ¬ (here r3).kind = 3 := by omega
 rw [if_neg hk] at hs;refine a2 ?_;refine vc_e (e_callp [_, _] rfl rfl Tryz.call20 rfl (pfail_any c 2 r3 hr3 _ (hC.k1 st.chg) (by exact st.rs 2) hR) (by rintro _ w' ⟨rfl, ch⟩ a ha; exact And.intro ha (Or.inr ⟨_, rfl, (atT c.e r3, 2), by rw [hs]; rfl, rfl, st.chg.trans ch.of_nil⟩)) (fun _ _ h => h.elim));intro hc16;(try simp only [dn] at hc16);have hk : (here r3).kind = 3 := by omega
 rw [if_pos hk] at hs; dsimp only at hs;have hne := kind_ne hk (by decide);have hlt := tail_lt hne;have hle3 := hsf3.length_le;refine a5 ?_;refine vc_e (e_call [_] rfl rfl Tryz.call39 rfl (pnext_any c r3 hr3 hne _ (hC.k1 st.chg) (by exact st.rs 2)) ?_);rintro _ w ⟨rfl, hP1, cw⟩;replace st := St.prs (b := c.pb) st 2 rfl cw (.inl (.head _)) hP1;dsimp only [setNth] at st;refine vy (y_fld rfl Tryz.underlying65 rfl rfl Tryz.isAgg2 rfl) ?_;refine yfz 1 Tryz.underlying95 Tryz.sizeOf2 ?_;refine vc_e (est st 0 Tryz.sizeOf2 ?_);intro w st; dsimp only [setNth, wr] at st;refine a8 ?_;refine vif ?_ ?_;intro hc23;(try simp only [dn] at hc23);rw [if_pos hc23] at hs;refine a1 ?_;refine yfz 1 Tryz.underlying95 Tryz.sizeOf2 ?_;refine yl st 0 Tryz.isAgg2 ?_;refine vy (y_neg rfl (neg_i64 (here_wd hC.wd hr3))) ?_;refine yfz 1 Tryz.underlying95 Tryz.sizeOf2 ?_;refine vc_e (est st 0 Tryz.sizeOf2 ?_);intro w st; dsimp only [setNth, wr] at st;refine a1 ?_
 rotate_left
 intro hc23;(try simp only [dn] at hc23);rw [if_neg (by rw [hc23]; simp)] at hs;refine a1 ?_
 all_goals
  refine a3 ?_;refine yla st 0 [_, _, _] Tryz.isAgg95 Tryz.sizeOf95 ?_;refine vc_e (ests st 1 [_, _, _] Tryz.sizeOf95 ?_);intro w st; dsimp only [setNth, wr] at st;refine a3 ?_;refine vq_ret1 st (.inl rfl) Tryz.results92 (by exact .cell 1 rfl rfl Tryz.isAgg95 Tryz.sizeOf95) ?_;refine .inl ⟨_, rfl, ?_⟩;exact ⟨_, _, hs, (List.tail_suffix _).trans (hsf3.trans ((List.tail_suffix _).trans hsf)), by omega, (by exact st.rs 2), st.chg, rfl⟩
/-- a reader of one thing, as a method's value -/
def Reader (c : PCtx) (fo : FuncId) (F : List Tok → PR Dc) : Prop := ∀ (r : List Tok) (hr : r <:+ c.ts) (w : World) (hC : PCok c w) (hP : PAt c r w), RetP Tryz.prog fo [.pointer (some ⟨c.pb, 0, none⟩)] w
    (PRes c r (F r) [c.pb] w fun d v _ => v = .agg (dcL d).toArray) (PErr c (F r) [c.pb] w)
/-- a list's end, so much having come -/
def contL (e : Nat) (one : List Tok → PR Dc) (n : Nat) (acc : List Dc) (r : List Tok) : PR (List Dc) := if isT [44] r = true then (match listP e one n r.tail with
    | .error f => .error f
    | .ok (l, r') => .ok (acc ++ l, r'))
 else match want e [59] r with
  | .error f => .error f
  | .ok r' => .ok (acc, r')
theorem listP_cont (e : Nat) (one : List Tok → PR Dc) (n : Nat) (ts : List Tok) : listP e one (n + 1) ts = match one ts with
  | .error f => .error f
  | .ok (d, r) => contL e one n [d] r := by
 rw [listP]
 cases one ts with
 | error f => rfl
 | ok q => simp only [contL, List.singleton_append] <;> rfl
theorem contL_step (e : Nat) (one : List Tok → PR Dc) (n : Nat) (acc : List Dc) (r : List Tok) (h : isT [44] r = true) : contL e one (n + 1) acc r = match one r.tail with
  | .error f => .error f
  | .ok (d, r') => contL e one n (acc ++ [d]) r' := by
 rw [contL, if_pos h, listP_cont]
 cases one r.tail with
 | error f => rfl
 | ok q =>
  by_cases hc : isT [44] q.2 = true
  ·simp only [contL, if_pos hc]
   cases listP e one n q.2.tail with
   | error f => rfl
   | ok q2 => simp
  ·simp only [contL, if_neg hc]
   cases want e [59] q.2 with
   | error f => rfl
   | ok r2 => simp
theorem contL_end (e : Nat) (one : List Tok → PR Dc) (n : Nat) (acc : List Dc) (r : List Tok) (h : isT [44] r = false) : contL e one n acc r = match want e [59] r with
  | .error f => .error f
  | .ok r' => .ok (acc, r') := by rw [contL, if_neg (by simp [h])]

theorem plist_any (c : PCtx) (hR : c.R = 70) (fo : FuncId) (F : List Tok → PR Dc) (hcf : ∀ (az : Array Value) w, (callFunc fo az).run Tryz.prog w = .ok (.enter fo az) w) (hF : Reader c fo F) (n : Nat) (r : List Tok) (hn : r.length < n) (hr : r <:+ c.ts) (w : World) (hC : PCok c w) (hP : PAt c r w) :
    RetP Tryz.prog 91 [.pointer (some ⟨c.pb, 0, none⟩), .func (.func fo) [.pointer (some ⟨c.pb, 0, none⟩)].toArray #[]] w
  (PRes c r (listP c.e F n r) [c.pb] w fun ds v w' => ∃ oa cap Sq, v = .slice oa ds.length cap ∧ DcR 95 w' oa cap ds Sq ∧ Nw w.heap.size Sq) (PErr c (listP c.e F n r) [c.pb] w) := by
 obtain ⟨n, rfl⟩ : ∃ m, n = m + 1 := ⟨n - 1, by omega⟩
 refine retp_of [_, _] Tryz.func91 rfl Tryz.ntmps91 rfl ?_;obtain ⟨w0, rfl⟩ : ∃ w0, w0 = w := ⟨_, rfl⟩
 have hP' := hP;dsimp only [PAt, pcell] at hP;have st := St.of1 [c.pb] hP;have h20 := hC.len;have hl := suf_len hr;have hs := listP_cont c.e F n r;refine a8 ?_;refine vc_e (e_callvp [] rfl rfl rfl hcf rfl (hF r hr _ (hC.k1 st.chg) (by exact st.rs 0)) (by rintro _ w' ⟨f, hf, rfl, ch⟩ a ha; exact And.intro ha (Or.inr ⟨_, rfl, f, by rw [hs, hf], rfl, st.chg.trans ch⟩)) ?_);rintro _ w ⟨d0, r1, hx, hsf, hln, hP1, cw, rfl⟩;replace st := St.prs (b := c.pb) st 0 rfl cw (.inl (.head _)) hP1;dsimp only [setNth] at st;rw [hx] at hs; dsimp only at hs;have hr1 := hsf.trans hr;refine vc_e (e_bs1 (l := [_, _, _]) st rfl rfl rfl rfl Tryz.underlying37 Tryz.sizeOf95 rfl rfl rfl Tryz.zeroValue95 ?_);intro b8 w hb8 st;replace st := st.toOwn (len := 1) (size := 3) hb8 rfl (by unfold maxLen; omega);refine a5 ?_;refine vc_loop (w0 := w0) (M := [c.pb]) (fun (y : Nat × List Dc × List Tok × Option Addr × Nat) => [(0, .pointer (some ⟨c.pb, 0, none⟩)), (1, .func (.func fo) [.pointer (some ⟨c.pb, 0, none⟩)].toArray #[]), (5, .slice y.2.2.2.1 y.2.1.length y.2.2.2.2)]) (fun y => [.own (.slice y.2.2.2.1 y.2.1.length y.2.2.2.2) 95 3 y.2.1.length (y.2.1.flatMap dcL), .blk c.pb (.cells (pcell c y.2.2.1).toArray c.T (0, 0))]) (fun y _ => y.2.2.1 <:+ r ∧ y.2.2.1.length + y.2.1.length ≤ r.length ∧ y.2.2.1.length < y.1 + 1 ∧ listP c.e F (n + 1) r = contL c.e F y.1 y.2.1 y.2.2.1) (fun y => y.2.2.1.length) (n, [d0], r1, _, _) ⟨rfl, rfl, rfl, trivial⟩ (by simpa [dcL] using st) ⟨hsf, by simp; omega, by dsimp only; omega, hs⟩ ?_;clear st hs;rintro ⟨m, acc, r2, oq, cq⟩ w ⟨hsf2, hl2, hm2, hs⟩ st;dsimp only at hsf2 hl2 hm2 hs st;have hr2 := hsf2.trans hr;refine a4 ?_;refine vc_e (e_call [_, _] rfl rfl Tryz.call90 rfl (ptake_any c [44] r2 hr2 _ (hC.k1 st.chg) (by exact st.rs 1)) ?_);rintro _ w ⟨rfl, hP1, cw⟩;replace st := St.prs (b := c.pb) st 1 rfl cw (.inl (.head _)) hP1;dsimp only [setNth] at st;refine a2 ?_;refine vif ?_ ?_;intro hc10;(try simp only [dn] at hc10);simp only [hc10, if_true] at st;have ht := tail_lt (isT_ne hc10);have hr3 := suf_tail hr2;obtain ⟨m, rfl⟩ : ∃ k, m = k + 1 := ⟨m - 1, by omega⟩
 rw [contL_step _ _ _ _ _ hc10] at hs;refine a6 ?_;refine vc_e (e_callvp [] rfl rfl rfl hcf rfl (hF r2.tail hr3 _ (hC.k1 st.chg) (by exact st.rs 1)) (by rintro _ w' ⟨f, hf, rfl, ch⟩ a ha; exact And.intro ha (Or.inr ⟨_, rfl, f, by rw [hs, hf], rfl, st.chg.trans ch⟩)) ?_);rintro _ w ⟨d1, r4, hx4, hsf4, hln4, hP1, cw, rfl⟩;replace st := St.prs (b := c.pb) st 1 rfl cw (.inl (.head _)) hP1;dsimp only [setNth] at st;rw [hx4] at hs; dsimp only at hs;have hr4 := hsf4.trans hr3;have h40 := hl2;have h41 := hr.length_le;refine vc_e (e_bs1 (l := [_, _, _]) st rfl rfl rfl rfl Tryz.underlying37 Tryz.sizeOf95 rfl rfl rfl Tryz.zeroValue95 ?_);intro b14 w hb14 st;refine vc_e (e_app (bytes := 32) st 1 0 rfl rfl rfl rfl rfl rfl Tryz.underlying37 Tryz.info95 rfl rfl rfl rfl rfl (by simp) rfl rfl (by unfold maxLen; omega) (by omega) ?_);intro oaQ capQ w st; dsimp only [setNth] at st;replace st := st.pick [1, 2] rfl (by decide);refine a3 ?_;refine vq_again (m, acc ++ [d1], r4, oaQ, capQ)  (by refine ⟨rfl, rfl, ?_, trivial⟩; simp [find, put]) (by simpa [dcL] using st) ?_ ?_;exact ⟨(hsf4.trans (List.tail_suffix _)).trans hsf2, by simp; omega, by dsimp only; omega, hs⟩;dsimp only; omega;intro hc10;(try simp only [dn] at hc10);simp only [hc10, Bool.false_eq_true, if_false] at st;rw [contL_end _ _ _ _ _ hc10] at hs;refine a8 ?_;refine vc_e (e_bs1 (l := [_]) st rfl rfl rfl rfl Tryz.underlying188 Tryz.sizeOf9 rfl rfl rfl Tryz.zeroValue9 ?_);intro b17 w hb17 st;refine vc_e (e_callp [_, _] rfl rfl Tryz.call88 rfl (pwant_any c [[59]] (by simp) _ _ _ _ rfl r2 hr2 _ (hC.k1 st.chg) (by exact st.rs 2) hR (st.res (i := 0) rfl) (by exact st.bne 0 2 (by decide) rfl rfl)) (by rintro _ w' ⟨f, hf, rfl, ch⟩ a ha; rw [wantL_one] at hf; exact And.intro ha (Or.inr ⟨_, rfl, f, by rw [hs, hf], rfl, st.chg.trans ch⟩)) ?_);rintro _ w ⟨r5, hx, hsfr5, hlnr5, hP1, cw⟩;rw [wantL_one] at hx;rw [hx] at hs; dsimp only at hs;replace st := St.prs (b := c.pb) st 2 rfl cw (.inl (.head _)) hP1;dsimp only [setNth] at st;have hr5 := hsfr5.trans hr2;refine a9 ?_;refine vq_ret1 st (.inl rfl) Tryz.results91 (.tmp rfl) ?_;refine .inl ⟨_, rfl, ?_⟩;have hown := st.ownNw (i := 1) rfl;exact ⟨_, _, hs, hsfr5.trans hsf2, by simp at hlnr5; omega, (by exact st.rs 2), st.chg, oq, cq, obk oq, rfl, ⟨hown.1, rfl⟩, hown.2⟩
end Go.Proofs.YtjoepkpdanolkaaGreatDoor.Pq


/- A parser's trees: operators that wait; new rows of one and of two. -/
namespace Sx
open Go Go.RowKit LexS ParS

/-- the cells of an operator that waits, with its first side -/
abbrev pdC (p : Pend) (oa : Option Addr) (cap : Nat) : List Value := [.int .u8 (p.1 : Int), .int .i64 (p.2.1 : Int), .int .u8 p.2.2.k, .int .u8 p.2.2.op, .int .i64 p.2.2.wd, str p.2.2.nm, .slice oa p.2.2.kids.length cap, .int .i64 p.2.2.a]
/-- operators that wait: their cells, the top one's last; the blocks of their first sides -/
def PdSs (tE : Nat) (w : World) : List Pend → List Value → List Nat → Prop
  | [], xs, S => xs = [] ∧ S = []
  | p :: W, xs, S => ∃ oa cap S1 xr Sr, xs = xr ++ pdC p oa cap ∧ S = Sr ++ S1 ∧ ExR tE w oa cap p.2.2.kids S1 ∧ PdSs tE w W xr Sr
section
variable {tE : Nat} {w w' : World}
theorem PdSs.len : ∀ {W : List Pend} {xs : List Value} {S : List Nat}, PdSs tE w W xs S → xs.length = W.length * 8
  | [], xs, S, h => by rw [h.1]; rfl
  | p :: W, xs, S, ⟨oa, cap, S1, xr, Sr, e1, e2, h1, h2⟩ => by
    have := PdSs.len h2
    rw [e1]; simp; omega
theorem PdSs.lt : ∀ {W : List Pend} {xs : List Value} {S : List Nat}, PdSs tE w W xs S → ∀ b ∈ S, b < w.heap.size
  | [], xs, S, h, b, hb => by rw [h.2] at hb; simp at hb
  | p :: W, xs, S, ⟨oa, cap, S1, xr, Sr, e1, e2, h1, h2⟩, b, hb => by
    rw [e2] at hb
    rcases List.mem_append.1 hb with h | h
    · exact PdSs.lt h2 b h
    · exact h1.lt b h
theorem PdSs.kept : ∀ {W : List Pend} {xs : List Value} {S : List Nat}, PdSs tE w W xs S → (∀ b ∈ S, w'.heap[b]? = w.heap[b]?) → PdSs tE w' W xs S
  | [], xs, S, h, _ => h
  | p :: W, xs, S, ⟨oa, cap, S1, xr, Sr, e1, e2, h1, h2⟩, hk => by
    subst e2
    exact ⟨oa, cap, S1, xr, Sr, e1, rfl, h1.kept (fun b hb => hk b (List.mem_append.2 (.inr hb))), PdSs.kept h2 (fun b hb => hk b (List.mem_append.2 (.inl hb)))⟩
theorem holds_pd {base : Nat} {W : List Pend} {xs : List Value} {S : List Nat} (h : PdSs tE w W xs S) : (Res.tree S fun w => PdSs tE w W xs S).holds base w := holds_of h h.lt (fun a b h hk => h.kept hk)

theorem loc_ex {oa : Option Addr} {cap : Nat} {es : List Ex} {S : List Nat} : Loc S fun w => ExR tE w oa cap es S := loc_of fun a b h hk => h.kept hk
theorem loc_pd {W : List Pend} {xs : List Value} {S : List Nat} : Loc S fun w => PdSs tE w W xs S := loc_of fun a b h hk => h.kept hk
/-- a new block as a row -/
theorem own_new {b E sz len : Nat} {l : List Value} (h : w.heap[b]? = some (.cells l.toArray E (0, 0))) (hlen : l.length = len * sz) (hm : len ≤ maxLen) : w.ownsRow 0 E sz (.slice (some ⟨b, 0, none⟩) len len) len l := by
  refine ⟨hlen, .inr ⟨b, len, l.toArray, rfl, Nat.zero_le _, h, Nat.le_refl _, hm, by simpa using hlen, ?_⟩⟩
  rw [← hlen]
  simp
theorem ex_one {b : Nat} {x : Ex} {ox : Option Addr} {cx : Nat} {S : List Nat} (h : w.heap[b]? = some (.cells (exC x ox cx).toArray tE (0, 0))) (hx : ExR tE w ox cx x.kids S) : ExR tE w (some ⟨b, 0, none⟩) 1 [x] (b :: S) :=
  ⟨exC x ox cx, S, own_new h rfl (by simp [maxLen]), rfl, ExSs_one.2 (ExS_iff.2 ⟨ox, cx, rfl, hx⟩)⟩
theorem ex_two {b : Nat} {x y : Ex} {ox oy : Option Addr} {cx cy : Nat} {S T : List Nat} (h : w.heap[b]? = some (.cells (exC x ox cx ++ exC y oy cy).toArray tE (0, 0))) (hx : ExR tE w ox cx x.kids S) (hy : ExR tE w oy cy y.kids T) :
    ExR tE w (some ⟨b, 0, none⟩) 2 [x, y] (b :: (S ++ T)) :=
  ⟨exC x ox cx ++ exC y oy cy, S ++ T, own_new h rfl (by simp [maxLen]), rfl, (ExSs_app (a := [x]) (b := [y])).2 ⟨_, _, S, T, rfl, rfl, ExSs_one.2 (ExS_iff.2 ⟨ox, cx, rfl, hx⟩), ExSs_one.2 (ExS_iff.2 ⟨oy, cy, rfl, hy⟩)⟩⟩
end
section
variable {w w' w0 : World} {M : List Nat} {hs : List Res}
/-- an owned row, shortened -/
theorem own_take {base E size n m cap : Nat} {oa : Option Addr} {xs ys : List Value} (h : w.ownsRow base E size (.slice oa n cap) n (xs ++ ys)) (hm : m ≤ n) (hx : xs.length = m * size) : w.ownsRow base E size (.slice oa m cap) m xs := by
  rcases h with ⟨hl, h⟩
  refine ⟨hx, ?_⟩
  rcases h with ⟨e, h0⟩ | ⟨g, c, cur, e, hb, hg, hnc, hcm, hcs, htake⟩
  · simp only [Value.slice.injEq] at e
    obtain ⟨rfl, e2, rfl⟩ := e
    obtain rfl : m = 0 := by omega
    exact .inl ⟨rfl, rfl⟩
  · simp only [Value.slice.injEq] at e
    obtain ⟨rfl, -, rfl⟩ := e
    refine .inr ⟨g, cap, cur, rfl, hb, hg, by omega, hcm, hcs, ?_⟩
    have h1 : cur.toList.take (n * size) = xs ++ ys := by simpa using htake
    have h2 : m * size ≤ n * size := Nat.mul_le_mul_right _ hm
    have h3 : cur.toList.take (m * size) = xs := by
      have : cur.toList.take (m * size) = (cur.toList.take (n * size)).take (m * size) := by rw [List.take_take, Nat.min_eq_left h2]
      rw [this, h1, ← hx, List.take_left]
    simpa using h3
theorem own_cap {base E size n cap : Nat} {oa : Option Addr} {xs : List Value} (h : w.ownsRow base E size (.slice oa n cap) n xs) : n ≤ cap := by
  rcases h.2 with ⟨e, h0⟩ | ⟨g, c, cur, e, hb, hg, hnc, _⟩
  · omega
  · simp only [Value.slice.injEq] at e; omega
theorem own_some {base E size n cap : Nat} {oa : Option Addr} {xs : List Value} (h : w.ownsRow base E size (.slice oa n cap) n xs) (hn : 0 < n) : ∃ g, oa = some ⟨g, 0, none⟩ := by
  obtain ⟨g, c, e, -⟩ := own_form h hn
  simp only [Value.slice.injEq] at e
  exact ⟨g, e.1⟩
theorem app_at {α : Type} {xr l : List α} {k j : Nat} (h : xr.length = k) : (xr ++ l)[k + j]? = l[j]? := by rw [List.getElem?_append_right (by omega)]; congr 1; omega
theorem St.shrink {E size n m cap : Nat} {oa : Option Addr} {xs ys : List Value} (st : St w0 M (.own (.slice oa n cap) E size n (xs ++ ys) :: hs) w) (hm : m ≤ n) (hx : xs.length = m * size) : St w0 M (.own (.slice oa m cap) E size m xs :: hs) w :=
  st.turn0 (fun k hk => by rw [Res.at?, obk_own] at hk ⊢; exact hk) (own_take (st.res (i := 0) rfl) hm hx)
end

/-! ### what is parsed, so much having come -/
def contE (u : List Tok → PR Ex) (n : Nat) (W : List Pend) (x : Ex) (r : List Tok) : PR Ex := match flatE u n r with
  | .error f => .error f
  | .ok (l, r') => .ok (shunt l W x, r')
theorem exprW_cont (u : List Tok → PR Ex) (r : List Tok) : exprW u r = match u r with
    | .error f => .error f
    | .ok (x, r1) => contE u (r1.length + 1) [] x r1 := by
  unfold exprW contE
  cases u r with
  | error f => rfl
  | ok p => rfl
theorem redu_all : ∀ (lv lv' : Int) (W : List Pend) (x : Ex), redu true lv W x = redu true lv' W x
  | lv, lv', [], x => rfl
  | lv, lv', (op, a, l) :: W, x => by simp only [redu, true_or, if_true]; exact redu_all lv lv' W _
theorem contE_stop {u : List Tok → PR Ex} {n : Nat} {W : List Pend} {x z : Ex} {r : List Tok} {lv : Int} (h : opT (here r) = none) (hz : redu true lv W x = ([], z)) : contE u (n + 1) W x r = .ok (z, r) := by
  simp only [contE, flatE, h, shunt]
  rw [redu_all 0 lv, hz]
theorem contE_step {u : List Tok → PR Ex} {n : Nat} {W W' : List Pend} {x z : Ex} {r : List Tok} {op : Nat} (h : opT (here r) = some op) (hz : redu false (lvlO (op : Int)) W x = (W', z)) : contE u (n + 1) W x r = match u r.tail with
    | .error f => .error f
    | .ok (y, r') => contE u n ((op, (here r).at_, z) :: W') y r' := by
  simp only [contE, flatE, h]
  cases hu : u r.tail with
  | error f => rfl
  | ok p =>
    simp only
    cases hf : flatE u n p.2 with
    | error f => rfl
    | ok q => simp only [shunt]; rw [hz]
structure ESt where
  W : List Pend
  x : Ex
  r : List Tok
  n : Nat
  ow : Option Addr
  cw : Nat
  xs : List Value
  SW : List Nat
  ox : Option Addr
  cx : Nat
  Sx : List Nat
end Sx


namespace Go.Proofs.YtjoepkpdanolkaaGreatDoor.Pq
open Go.RowKit Sx LexS ParS _root_.Go.Proofs.Tryz
theorem Tryz.info133 : Tryz.prog.info? 133 = some Tryz.t133 := by kernel_rfl
/-- an expression's value, and the new memory that it hangs on -/
def HE (w : World) (x : Ex) (v : Value) (w' : World) : Prop := ∃ oq cq Sq, v = .agg (exC x oq cq).toArray ∧ ExR 27 w' oq cq x.kids Sq ∧ Nw w.heap.size Sq
/-- a reader of expressions that lie so deep -/
def DRead (fo : FuncId) (c : PCtx) (d : Nat) (F : List Tok → PR Ex) : Prop := ∀ (r : List Tok) (hr : r <:+ c.ts) (w : World) (hC : PCok c w) (hP : PAt c r w), RetP Tryz.prog fo [.pointer (some ⟨c.pb, 0, none⟩), .int .i64 (d : Int)] w
    (PRes c r (F r) [c.pb] w (HE w)) (PErr c (F r) [c.pb] w)
abbrev ex00 : List Value := [.int .u8 0, .int .u8 0, .int .i64 0, str [], .slice none 0 0, .int .i64 0]

set_option maxHeartbeats 1000000 in
theorem pexpr_of (c : PCtx) (hR : c.R = 70) (hg : c.g = 0) (d m : Nat) (hU : DRead 35 c d (unaryP c.e m)) : DRead 19 c d (exprW (unaryP c.e m)) := by
 intro r hr w hC hP;refine retp_of [_, _] Tryz.func19 rfl Tryz.ntmps19 rfl ?_;obtain ⟨w0, rfl⟩ : ∃ w0, w0 = w := ⟨_, rfl⟩
 have hP' := hP;dsimp only [PAt, pcell] at hP;have st := St.of1 [c.pb] hP;have h20 := hC.len;have hl := suf_len hr;have hs := exprW_cont (unaryP c.e m) r;replace st := St.pushR (r := .tree [] (fun w => PdSs 27 w [] [] [])) st (Chg.refl _ _) (holds_pd ⟨rfl, rfl⟩) (by simp [Res.at?]);replace st := st.ownNil 133 8;refine a2 ?_;refine vc_e (e_al (l := [_, _, _, _, _, _]) st rfl rfl Tryz.zeroValue27 rfl ?_);intro b4 w hb4 st;refine a11 ?_;refine vc_e (e_callp [_, _] rfl rfl Tryz.call35 rfl (hU r hr _ (hC.k1 st.chg) (by exact st.rs 3)) (by rintro _ w' ⟨f, hf, rfl, ch⟩ a ha; exact And.intro ha (Or.inr ⟨_, rfl, f, by rw [hs, hf], rfl, st.chg.trans ch⟩)) ?_);rintro _ w ⟨x0, r0, hx, hsfr0, hlnr0, hP1, cw, ox0, cx0, Sx0, rfl, hQ, hN⟩;have hNSx0 := hN.le st.chg.size;replace st := St.prsT (b := c.pb) st 3 rfl cw (.inl (.head _)) hP1 (holds_ex hQ) hN.2;dsimp only [setNth] at st;rw [hx] at hs; dsimp only at hs;refine vc_e (e_al (l := [_, _, _, _, _, _]) st rfl rfl Tryz.zeroValue27 rfl ?_);intro b6 w hb6 st;refine vc_e (ests st 0 [_, _, _, _, _, _] Tryz.sizeOf27 ?_);intro w st; dsimp only [setNth, wr] at st;refine a3 ?_;refine vc_loop (w0 := w0) (M := [c.pb]) (fun (y : ESt) => [(0, .pointer (some ⟨c.pb, 0, none⟩)), (1, .int .i64 (d : Int)), (4, .pointer (some ⟨b4, 0, none⟩)), (5, .slice y.ow y.W.length y.cw), (6, .pointer (some ⟨b6, 0, none⟩))]) (fun (y : ESt) => [.own (.slice y.ow y.W.length y.cw) 133 8 y.W.length y.xs, .tree y.SW (fun w => PdSs 27 w y.W y.xs y.SW), .blk b6 (.cells (exC y.x y.ox y.cx).toArray 27 (0, 0)), .tree y.Sx (fun w => ExR 27 w y.ox y.cx y.x.kids y.Sx), .blk b4 (.cells ex00.toArray 27 (0, 0)), .blk c.pb (.cells (pcell c y.r).toArray c.T (0, 0))]) (fun (y : ESt) _ => y.r <:+ r ∧ y.r.length < r.length ∧ y.W.length + y.r.length ≤ r.length ∧ y.r.length < y.n ∧ Nw w0.heap.size y.SW ∧ Nw w0.heap.size y.Sx ∧ exprW (unaryP c.e m) r = contE (unaryP c.e m) y.n y.W y.x y.r) (fun (y : ESt) => y.r.length) ⟨[], x0, r0, r0.length + 1, none, 0, [], [], ox0, cx0, Sx0⟩ ⟨rfl, rfl, rfl, rfl, rfl, trivial⟩ (st.pick [3, 4, 0, 1, 2, 5] rfl (by decide)) ⟨hsfr0, hlnr0, by simp; omega, by dsimp only; omega, Nw.nil, hNSx0, hs⟩ ?_;clear st hs;rintro ⟨W, x, r1, n, ow, cW, xs, SW, ox, cx, Sx⟩ w ⟨hsf1, hlt1, hWl, hn1, hSW, hSx, hs⟩ st;dsimp only at hsf1 hlt1 hWl hn1 hSW hSx hs st;have hr1 := hsf1.trans hr;obtain ⟨n, rfl⟩ : ∃ k, n = k + 1 := ⟨n - 1, by omega⟩
 refine a4 ?_;refine vc_e (e_call [_] rfl rfl Tryz.call36 rfl (phere_any c r1 hr1 _ (hC.k1 st.chg) (by exact st.rs 5)) ?_);rintro _ w ⟨rfl, cw⟩;replace st := st.call0 cw;refine vc_e (e_al (l := [_, _, _, _]) st rfl rfl Tryz.zeroValue65 rfl ?_);intro b7 w hb7 st;refine vc_e (ests st 0 [_, _, _, _] Tryz.sizeOf65 ?_);intro w st; dsimp only [setNth, wr] at st;refine a4 ?_;refine yfz 1 Tryz.underlying65 Tryz.sizeOf9 ?_;refine yl st 0 Tryz.isAgg9 ?_;refine vc_e (e_call [_] rfl rfl Tryz.call37 rfl (find_any (here r1).text _ (hg ▸ (hC.k1 st.chg).sig)) ?_);rintro _ _ ⟨rfl, rfl⟩;refine a7 ?_;refine vc_cut (w0 := w0) (M := [c.pb]) (fun (b : Bool) => [(0, .pointer (some ⟨c.pb, 0, none⟩)), (1, .int .i64 (d : Int)), (4, .pointer (some ⟨b4, 0, none⟩)), (5, .slice (ESt.mk W x r1 n ow cW xs SW ox cx Sx).ow (ESt.mk W x r1 n ow cW xs SW ox cx Sx).W.length (ESt.mk W x r1 n ow cW xs SW ox cx Sx).cw), (6, .pointer (some ⟨b6, 0, none⟩)), (7, .pointer (some ⟨b7, 0, none⟩)), (8, .int .u8 (((findO (here r1).text).getD 0 : Nat) : Int)), (9, .bool b)]) (fun _ => [.blk b7 (.cells (tkL (here r1)).toArray 65 (0, 0)), .own (.slice (ESt.mk W x r1 n ow cW xs SW ox cx Sx).ow (ESt.mk W x r1 n ow cW xs SW ox cx Sx).W.length (ESt.mk W x r1 n ow cW xs SW ox cx Sx).cw) 133 8 (ESt.mk W x r1 n ow cW xs SW ox cx Sx).W.length (ESt.mk W x r1 n ow cW xs SW ox cx Sx).xs, .tree (ESt.mk W x r1 n ow cW xs SW ox cx Sx).SW (fun w => PdSs 27 w (ESt.mk W x r1 n ow cW xs SW ox cx Sx).W (ESt.mk W x r1 n ow cW xs SW ox cx Sx).xs (ESt.mk W x r1 n ow cW xs SW ox cx Sx).SW), .blk b6 (.cells (exC (ESt.mk W x r1 n ow cW xs SW ox cx Sx).x (ESt.mk W x r1 n ow cW xs SW ox cx Sx).ox (ESt.mk W x r1 n ow cW xs SW ox cx Sx).cx).toArray 27 (0, 0)), .tree (ESt.mk W x r1 n ow cW xs SW ox cx Sx).Sx (fun w => ExR 27 w (ESt.mk W x r1 n ow cW xs SW ox cx Sx).ox (ESt.mk W x r1 n ow cW xs SW ox cx Sx).cx (ESt.mk W x r1 n ow cW xs SW ox cx Sx).x.kids (ESt.mk W x r1 n ow cW xs SW ox cx Sx).Sx), .blk b4 (.cells ex00.toArray 27 (0, 0)), .blk c.pb (.cells (pcell c r1).toArray c.T (0, 0))]) (fun b _ => b = (opT (here r1)).isSome) ?_ ?_;refine a2 ?_;refine vmb ?_ ?_;intro hg23;(try simp only [dn] at hg23);refine vy (y_fa0 rfl Tryz.underlying65 rfl rfl Tryz.sizeOf63 rfl) ?_;refine yl st 0 Tryz.isAgg63 ?_;refine a4 ?_;refine vq_meet (decide (((here r1).kind : Int) = 4)) ⟨rfl, rfl, rfl, rfl, rfl, rfl, rfl, rfl, trivial⟩ st ?_;show decide _ = _;have hk4 : ((here r1).kind : Int) = 4 ↔ (here r1).kind = 4 := by omega
 unfold opT
 by_cases hk : (here r1).kind = 4
 simp [hk, hg23];simp [hk, hk4];intro hg23;(try simp only [dn] at hg23);refine a6 ?_;refine vq_meet false ⟨rfl, rfl, rfl, rfl, rfl, rfl, rfl, rfl, trivial⟩ st ?_;show false = _;unfold opT;split;exact hg23.symm;rfl;clear st;rintro isop w hop st;dsimp only at hop st;refine vc_cut (w0 := w0) (M := [c.pb]) (fun (z : ESt) => [(0, .pointer (some ⟨c.pb, 0, none⟩)), (1, .int .i64 (d : Int)), (4, .pointer (some ⟨b4, 0, none⟩)), (5, .slice z.ow z.W.length z.cw), (6, .pointer (some ⟨b6, 0, none⟩)), (7, .pointer (some ⟨b7, 0, none⟩)), (8, .int .u8 (((findO (here r1).text).getD 0 : Nat) : Int)), (9, .bool isop)]) (fun (z : ESt) => [.blk b7 (.cells (tkL (here r1)).toArray 65 (0, 0)), .own (.slice z.ow z.W.length z.cw) 133 8 z.W.length z.xs, .tree z.SW (fun w => PdSs 27 w z.W z.xs z.SW), .blk b6 (.cells (exC z.x z.ox z.cx).toArray 27 (0, 0)), .tree z.Sx (fun w => ExR 27 w z.ox z.cx z.x.kids z.Sx), .blk b4 (.cells ex00.toArray 27 (0, 0)), .blk c.pb (.cells (pcell c r1).toArray c.T (0, 0))]) (fun (z : ESt) _ => z.W.length ≤ W.length ∧ Nw w0.heap.size z.SW ∧ Nw w0.heap.size z.Sx ∧ redu (!isop) (lvlO (((findO (here r1).text).getD 0 : Nat) : Int)) W x = (z.W, z.x) ∧ (isop = false → z.W = [])) ?_ ?_;refine a1 ?_;refine vc_loop (w0 := w0) (M := [c.pb]) (fun (z : ESt) => [(0, .pointer (some ⟨c.pb, 0, none⟩)), (1, .int .i64 (d : Int)), (4, .pointer (some ⟨b4, 0, none⟩)), (5, .slice z.ow z.W.length z.cw), (6, .pointer (some ⟨b6, 0, none⟩)), (7, .pointer (some ⟨b7, 0, none⟩)), (8, .int .u8 (((findO (here r1).text).getD 0 : Nat) : Int)), (9, .bool isop)]) (fun (z : ESt) => [.blk b7 (.cells (tkL (here r1)).toArray 65 (0, 0)), .own (.slice z.ow z.W.length z.cw) 133 8 z.W.length z.xs, .tree z.SW (fun w => PdSs 27 w z.W z.xs z.SW), .blk b6 (.cells (exC z.x z.ox z.cx).toArray 27 (0, 0)), .tree z.Sx (fun w => ExR 27 w z.ox z.cx z.x.kids z.Sx), .blk b4 (.cells ex00.toArray 27 (0, 0)), .blk c.pb (.cells (pcell c r1).toArray c.T (0, 0))]) (fun (z : ESt) _ => z.W.length ≤ W.length ∧ Nw w0.heap.size z.SW ∧ Nw w0.heap.size z.Sx ∧ redu (!isop) (lvlO (((findO (here r1).text).getD 0 : Nat) : Int)) W x = redu (!isop) (lvlO (((findO (here r1).text).getD 0 : Nat) : Int)) z.W z.x) (fun (z : ESt) => z.W.length) ⟨W, x, r1, n, ow, cW, xs, SW, ox, cx, Sx⟩ ⟨rfl, rfl, rfl, rfl, rfl, rfl, rfl, rfl, trivial⟩ st ⟨Nat.le_refl _, hSW, hSx, rfl⟩ ?_;clear st;rintro ⟨zW, zx, zr, zn, zow, zcW, zxs, zSW, zox, zcx, zSx⟩ w ⟨hzl, hzSW, hzSx, hzr⟩ st;dsimp only at hzl hzSW hzSx hzr st;refine a4 ?_;refine vy (y_lensl rfl Tryz.underlying127) ?_;refine a1 ?_;refine vmb ?_ ?_;intro hg31;(try simp only [dn] at hg31);obtain ⟨⟨po, pa, pl⟩, W2, rfl⟩ : ∃ p W2, zW = p :: W2 := by cases zW with | nil => simp at hg31 | cons p W2 => exact ⟨p, W2, rfl⟩
 obtain ⟨ol, cl, Sl, xr, Sr, rfl, hS, hRl, hPr⟩ := (st.res (i := 2) rfl).1;have hxl := hPr.len;have hzl2 : W2.length + 1 ≤ W.length := by simpa using hzl
 have hcap := own_cap (st.res (i := 1) rfl);obtain ⟨gb, rfl⟩ := own_some (st.res (i := 1) rfl) (by simp);refine a2 ?_;refine vmb ?_ ?_;intro hg34;(try simp only [dn] at hg34);refine a16 ?_;refine a5 ?_;subst hS;have st0 := (st.pick [2, 0, 1, 3, 4, 5, 6] rfl (by decide)).split hzSW.1 hPr hRl loc_pd loc_ex;replace st := st0.pick [2, 3, 0, 1, 4, 5, 6, 7] rfl (by decide);refine a2 ?_;refine vy (y_lensl rfl Tryz.underlying127) ?_;refine vy (y_sub rfl rfl (by simp : _ = (W2.length : Int)) (by omega) (by omega)) ?_;refine vy (y_ia0 (k := W2.length) rfl rfl Tryz.underlying127 Tryz.sizeOf133 rfl (by simp)) ?_;refine vy (y_ldoa (vs := pdC (po, pa, pl) ol cl) st 1 rfl Tryz.isAgg133 Tryz.sizeOf133 rfl rfl (fun j v hj => (app_at hxl).trans hj)) ?_;refine vc_e (e_al (l := [_, _, _, _, _, _, _, _]) st rfl rfl Tryz.zeroValue133 rfl ?_);intro b10 w hb10 st;refine vc_e (ests st 0 [_, _, _, _, _, _, _, _] Tryz.sizeOf133 ?_);intro w st; dsimp only [setNth, wr] at st;refine a6 ?_;refine vy (y_lensl rfl Tryz.underlying127) ?_;refine vy (y_sub rfl rfl (by simp : _ = (W2.length : Int)) (by omega) (by omega)) ?_;refine vy (y_slh (j := W2.length) rfl rfl Tryz.underlying127 Tryz.sizeOf133 rfl (by show W2.length ≤ zcW; simp at hcap; omega)) ?_;refine a4 ?_;replace st := (st.pick [2, 0, 1, 3, 4, 5, 6, 7, 8] rfl (by decide)).shrink (m := W2.length) (by simp) hxl;refine vy (y_fa0 rfl Tryz.underlying133 rfl rfl Tryz.sizeOf24 rfl) ?_;refine yl st 1 Tryz.isAgg24 ?_;refine yfz 2 Tryz.underlying133 Tryz.sizeOf27 ?_;refine yla st 1 [_, _, _, _, _, _] Tryz.isAgg27 Tryz.sizeOf27 ?_;refine yla st 5 [_, _, _, _, _, _] Tryz.isAgg27 Tryz.sizeOf27 ?_;refine vc_e (e_bsn (l := exC pl ol cl ++ exC zx zox zcx) (E := 27) st [(0, _), (1, _)] rfl rfl rfl (fun w => by simp [Instr.buildSlice, run_underlying Tryz.underlying25, Tryz.sizeOf27, Tryz.zeroValue27, Instr.fill, newRow, newObj, Sem.run, go_sem, Value.cells]) ?_);intro b64 w hb64 st;refine yfz 1 Tryz.underlying133 Tryz.sizeOf3 ?_;refine yl st 2 Tryz.isAgg3 ?_;refine vy (ybd (.agg #[_, _, _, _, _, _]) [(0, _), (1, _), (4, _), (5, _)]) ?_;refine vc_e (ests st 6 [_, _, _, _, _, _] Tryz.sizeOf27 ?_);intro w st; dsimp only [setNth, wr] at st;refine a2 ?_
 refine vq_again ⟨W2, binE po pa pl zx, zr, zn, some ⟨gb, 0, none⟩, zcW, xr, Sr, some ⟨b64, 0, none⟩, 2, b64 :: (Sl ++ zSx)⟩  ⟨rfl, rfl, rfl, rfl, rfl, rfl, rfl, rfl, trivial⟩ (by
   have hE := ex_two (st.res (i := 0) rfl) (st.res (i := 5) rfl).1 (st.res (i := 7) rfl).1
   exact (((st.pick [0, 5, 7, 3, 1, 4, 6, 8, 9] rfl (by decide)).joinN 3 (q := .tree (b64 :: (Sl ++ zSx)) fun w => ExR 27 w (some ⟨b64, 0, none⟩) 2 [pl, zx] (b64 :: (Sl ++ zSx))) (fun k hk => by
     rcases List.mem_cons.1 hk with rfl | hk
     · exact ⟨_, .head _, .head _⟩
     · rcases List.mem_append.1 hk with h | h
       · exact ⟨_, .tail _ (.head _), h⟩
       · exact ⟨_, .tail _ (.tail _ (.head _)), h⟩) (holds_ex hE))).pick [1, 2, 3, 4, 0, 5, 6] rfl (by decide)) ?_ ?_
 have hrd : redu (!isop) (lvlO (((findO (here r1).text).getD 0 : Nat) : Int)) ((po, pa, pl) :: W2) zx = redu (!isop) (lvlO (((findO (here r1).text).getD 0 : Nat) : Int)) W2 (binE po pa pl zx) := by
  simp only [redu]
  rw [if_pos (.inl (by rw [hg34]; rfl))]
 refine ⟨by simp at hzl; dsimp only; omega, hzSW.left, ?_, hzr.trans hrd⟩;refine Nw.app (S := [b64]) ⟨by simp, by simpa using hb64⟩ (hzSW.right.app hzSx (st.ne (i := 5) (j := 7) (by decide) rfl rfl)) (fun b hb hb' => ?_);rcases List.mem_append.1 hb' with h | h;exact st.ne (i := 0) (j := 5) (by decide) rfl rfl b hb h;exact st.ne (i := 0) (j := 7) (by decide) rfl rfl b hb h;simp;intro hg34;(try simp only [dn] at hg34);refine a2 ?_;refine vy (y_lensl rfl Tryz.underlying127) ?_;refine vy (y_sub rfl rfl (by simp : _ = (W2.length : Int)) (by omega) (by omega)) ?_;refine vy (y_ia0 (k := W2.length) rfl rfl Tryz.underlying127 Tryz.sizeOf133 rfl (by simp)) ?_;refine vy (y_fa0 rfl Tryz.underlying133 rfl rfl Tryz.sizeOf24 rfl) ?_;refine vy (y_ldo st 1 rfl Tryz.isAgg24 rfl (app_at (j := 0) hxl)) ?_;refine vc_e (e_call [_] rfl rfl Tryz.call38 rfl (level_any _ _ (hg ▸ (hC.k1 st.chg).sig)) ?_);rintro _ _ ⟨rfl, rfl⟩;refine a1 ?_;refine vc_e (e_call [_] rfl rfl Tryz.call38 rfl (level_any _ _ (hg ▸ (hC.k1 st.chg).sig)) ?_);rintro _ _ ⟨rfl, rfl⟩;refine a5 ?_;refine vif ?_ ?_;intro hc47;(try simp only [dn] at hc47);refine a5 ?_;subst hS;have st0 := (st.pick [2, 0, 1, 3, 4, 5, 6] rfl (by decide)).split hzSW.1 hPr hRl loc_pd loc_ex;replace st := st0.pick [2, 3, 0, 1, 4, 5, 6, 7] rfl (by decide);refine a2 ?_;refine vy (y_lensl rfl Tryz.underlying127) ?_;refine vy (y_sub rfl rfl (by simp : _ = (W2.length : Int)) (by omega) (by omega)) ?_;refine vy (y_ia0 (k := W2.length) rfl rfl Tryz.underlying127 Tryz.sizeOf133 rfl (by simp)) ?_;refine vy (y_ldoa (vs := pdC (po, pa, pl) ol cl) st 1 rfl Tryz.isAgg133 Tryz.sizeOf133 rfl rfl (fun j v hj => (app_at hxl).trans hj)) ?_;refine vc_e (e_al (l := [_, _, _, _, _, _, _, _]) st rfl rfl Tryz.zeroValue133 rfl ?_);intro b10 w hb10 st;refine vc_e (ests st 0 [_, _, _, _, _, _, _, _] Tryz.sizeOf133 ?_);intro w st; dsimp only [setNth, wr] at st;refine a6 ?_;refine vy (y_lensl rfl Tryz.underlying127) ?_;refine vy (y_sub rfl rfl (by simp : _ = (W2.length : Int)) (by omega) (by omega)) ?_;refine vy (y_slh (j := W2.length) rfl rfl Tryz.underlying127 Tryz.sizeOf133 rfl (by show W2.length ≤ zcW; simp at hcap; omega)) ?_;refine a4 ?_;replace st := (st.pick [2, 0, 1, 3, 4, 5, 6, 7, 8] rfl (by decide)).shrink (m := W2.length) (by simp) hxl;refine vy (y_fa0 rfl Tryz.underlying133 rfl rfl Tryz.sizeOf24 rfl) ?_;refine yl st 1 Tryz.isAgg24 ?_;refine yfz 2 Tryz.underlying133 Tryz.sizeOf27 ?_;refine yla st 1 [_, _, _, _, _, _] Tryz.isAgg27 Tryz.sizeOf27 ?_;refine yla st 5 [_, _, _, _, _, _] Tryz.isAgg27 Tryz.sizeOf27 ?_;refine vc_e (e_bsn (l := exC pl ol cl ++ exC zx zox zcx) (E := 27) st [(0, _), (1, _)] rfl rfl rfl (fun w => by simp [Instr.buildSlice, run_underlying Tryz.underlying25, Tryz.sizeOf27, Tryz.zeroValue27, Instr.fill, newRow, newObj, Sem.run, go_sem, Value.cells]) ?_);intro b64 w hb64 st;refine yfz 1 Tryz.underlying133 Tryz.sizeOf3 ?_;refine yl st 2 Tryz.isAgg3 ?_;refine vy (ybd (.agg #[_, _, _, _, _, _]) [(0, _), (1, _), (4, _), (5, _)]) ?_;refine vc_e (ests st 6 [_, _, _, _, _, _] Tryz.sizeOf27 ?_);intro w st; dsimp only [setNth, wr] at st;refine a2 ?_
 refine vq_again ⟨W2, binE po pa pl zx, zr, zn, some ⟨gb, 0, none⟩, zcW, xr, Sr, some ⟨b64, 0, none⟩, 2, b64 :: (Sl ++ zSx)⟩  ⟨rfl, rfl, rfl, rfl, rfl, rfl, rfl, rfl, trivial⟩ (by
   have hE := ex_two (st.res (i := 0) rfl) (st.res (i := 5) rfl).1 (st.res (i := 7) rfl).1
   exact (((st.pick [0, 5, 7, 3, 1, 4, 6, 8, 9] rfl (by decide)).joinN 3 (q := .tree (b64 :: (Sl ++ zSx)) fun w => ExR 27 w (some ⟨b64, 0, none⟩) 2 [pl, zx] (b64 :: (Sl ++ zSx))) (fun k hk => by
     rcases List.mem_cons.1 hk with rfl | hk
     · exact ⟨_, .head _, .head _⟩
     · rcases List.mem_append.1 hk with h | h
       · exact ⟨_, .tail _ (.head _), h⟩
       · exact ⟨_, .tail _ (.tail _ (.head _)), h⟩) (holds_ex hE))).pick [1, 2, 3, 4, 0, 5, 6] rfl (by decide)) ?_ ?_
 have hrd : redu (!isop) (lvlO (((findO (here r1).text).getD 0 : Nat) : Int)) ((po, pa, pl) :: W2) zx = redu (!isop) (lvlO (((findO (here r1).text).getD 0 : Nat) : Int)) W2 (binE po pa pl zx) := by
  simp only [redu]
  rw [if_pos (.inr hc47)]
 refine ⟨by simp at hzl; dsimp only; omega, hzSW.left, ?_, hzr.trans hrd⟩;refine Nw.app (S := [b64]) ⟨by simp, by simpa using hb64⟩ (hzSW.right.app hzSx (st.ne (i := 5) (j := 7) (by decide) rfl rfl)) (fun b hb hb' => ?_);rcases List.mem_append.1 hb' with h | h;exact st.ne (i := 0) (j := 5) (by decide) rfl rfl b hb h;exact st.ne (i := 0) (j := 7) (by decide) rfl rfl b hb h;simp;intro hc47;(try simp only [dn] at hc47);refine a4 ?_;refine vq_meet ⟨(po, pa, pl) :: W2, zx, zr, zn, some ⟨gb, 0, none⟩, zcW, xr ++ pdC (po, pa, pl) ol cl, zSW, zox, zcx, zSx⟩ ⟨rfl, rfl, rfl, rfl, rfl, rfl, rfl, rfl, trivial⟩ st ?_;exact ⟨hzl, hzSW, hzSx, hzr.trans (by simp only [redu]; rw [if_neg (by rw [hg34]; simp; omega)]), fun h => by rw [h] at hg34; cases hg34⟩;intro hg31;(try simp only [dn] at hg31);refine a16 ?_;refine a7 ?_;refine vq_meet ⟨zW, zx, zr, zn, zow, zcW, zxs, zSW, zox, zcx, zSx⟩ ⟨rfl, rfl, rfl, rfl, rfl, rfl, rfl, rfl, trivial⟩ st ?_;obtain rfl : zW = [] := List.eq_nil_of_length_eq_zero (by omega);exact ⟨hzl, hzSW, hzSx, hzr, fun _ => rfl⟩;clear st;rintro ⟨zW, zx, zr, zn, zow, zcW, zxs, zSW, zox, zcx, zSx⟩ w ⟨hzl, hzSW, hzSx, hzr, hz0⟩ st;dsimp only at hzl hzSW hzSx hzr hz0 st;refine a7 ?_;refine vif ?_ ?_;intro hc69;(try simp only [dn] at hc69);have hif : isop = false := by simpa using hc69
 have hno : opT (here r1) = none := by
  rw [hif] at hop
  cases hq : opT (here r1) with
  | none => rfl
  | some o => rw [hq] at hop; cases hop
 obtain rfl := hz0 hif;rw [hif] at hzr;simp only [Bool.not_false] at hzr;replace hs := hs.trans (contE_stop hno hzr);refine a2 ?_;refine yla st 3 [_, _, _, _, _, _] Tryz.isAgg27 Tryz.sizeOf27 ?_;refine vc_e (ests st 5 [_, _, _, _, _, _] Tryz.sizeOf27 ?_);intro w st; dsimp only [setNth, wr] at st;refine a7 ?_;refine vq_ret1 st (.inl rfl) Tryz.results19 (by exact .cell 5 rfl rfl Tryz.isAgg27 Tryz.sizeOf27) ?_;refine .inl ⟨_, rfl, ?_⟩;exact ⟨zx, r1, hs, hsf1, hlt1, (by exact st.rs 6), st.chg, zox, zcx, zSx, rfl, (st.res (i := 4) rfl).1, hzSx⟩;intro hc69;(try simp only [dn] at hc69);have hit : isop = true := by simpa using hc69
 obtain ⟨op, hop1⟩ : ∃ op, opT (here r1) = some op := by
  rw [hit] at hop
  cases hq : opT (here r1) with
  | none => rw [hq] at hop; cases hop
  | some o => exact ⟨o, rfl⟩
 have hfo : findO (here r1).text = some op := by
  unfold opT at hop1; split at hop1
  ·exact hop1
  ·cases hop1
 rw [hit, hfo] at hzr;simp only [Bool.not_true, Option.getD_some] at hzr;replace hs := hs.trans (contE_step hop1 hzr);have hne1 := opT_ne hop1;have htl1 := tail_lt hne1;refine a5 ?_;refine vc_e (e_call [_] rfl rfl Tryz.call39 rfl (pnext_any c r1 hr1 hne1 _ (hC.k1 st.chg) (by exact st.rs 6)) ?_);rintro _ w ⟨rfl, hP1, cw⟩;replace st := St.prs (b := c.pb) st 6 rfl cw (.inl (.head _)) hP1;dsimp only [setNth] at st;refine a6 ?_;refine yfz 3 Tryz.underlying65 Tryz.sizeOf3 ?_;refine yl st 0 Tryz.isAgg3 ?_;refine yla st 3 [_, _, _, _, _, _] Tryz.isAgg27 Tryz.sizeOf27 ?_;refine vy (ybd (.agg #[_, _, _, _, _, _, _, _]) [(0, _), (1, _), (2, _)]) ?_;refine vc_e (e_bs1 (l := [_, _, _, _, _, _, _, _]) st rfl rfl rfl rfl Tryz.underlying127 Tryz.sizeOf133 rfl rfl rfl Tryz.zeroValue133 ?_);intro b79 w hb79 st;refine vc_e (e_app (bytes := 80) st 2 0 rfl rfl rfl rfl rfl rfl Tryz.underlying127 Tryz.info133 rfl rfl rfl rfl rfl (by simp) rfl rfl (by unfold maxLen; omega) (by omega) ?_);intro oaQ capQ w st; dsimp only [setNth] at st;refine a4 ?_;rw [hfo] at st;dsimp only [Option.getD_some] at st;have hT' : PdSs 27 w ((op, (here r1).at_, zx) :: zW) (zxs ++ pdC (op, (here r1).at_, zx) zox zcx) (zSW ++ zSx) := ⟨zox, zcx, zSx, zxs, zSW, rfl, rfl, (st.res (i := 5) rfl).1, (st.res (i := 3) rfl).1⟩
 have hSW' := hzSW.app hzSx (st.ne (i := 3) (j := 5) (by decide) rfl rfl);replace st := ((st.pick [3, 5, 2, 4, 6, 7] rfl (by decide)).join (q := .tree (zSW ++ zSx) (fun w => PdSs 27 w ((op, (here r1).at_, zx) :: zW) (zxs ++ pdC (op, (here r1).at_, zx) zox zcx) (zSW ++ zSx))) (fun k hk => List.mem_append.1 hk) (holds_pd hT'))
 refine a2 ?_;refine vc_e (e_callp [_, _] rfl rfl Tryz.call35 rfl (hU r1.tail (suf_tail hr1) _ (hC.k1 st.chg) (by exact st.rs 4)) (by rintro _ w' ⟨f, hf, rfl, ch⟩ a ha; exact And.intro ha (Or.inr ⟨_, rfl, f, by rw [hs, hf], rfl, st.chg.trans ch⟩)) ?_);rintro _ w ⟨x2, r2, hx, hsfr2, hlnr2, hP1, cw, oy, cy, Sy, rfl, hQ, hN⟩;have hNSy := hN.le st.chg.size;replace st := St.prsT (b := c.pb) st 4 rfl cw (.inl (.head _)) hP1 (holds_ex hQ) hN.2;dsimp only [setNth] at st;rw [hx] at hs; dsimp only at hs;refine vc_e (ests st 3 [_, _, _, _, _, _] Tryz.sizeOf27 ?_);intro w st; dsimp only [setNth, wr] at st;refine a2 ?_;refine vq_again ⟨(op, (here r1).at_, zx) :: zW, x2, r2, n, oaQ, capQ, zxs ++ pdC (op, (here r1).at_, zx) zox zcx, zSW ++ zSx, oy, cy, Sy⟩  ⟨rfl, rfl, rfl, rfl, rfl, trivial⟩ (st.pick [2, 1, 3, 0, 4, 5] rfl (by decide)) ?_ ?_;exact ⟨(hsfr2.trans (List.tail_suffix _)).trans hsf1, by dsimp only; omega, by simp only [List.length_cons]; omega, by dsimp only; omega, hSW', hNSy, hs⟩;dsimp only; omega
end Go.Proofs.YtjoepkpdanolkaaGreatDoor.Pq

