/- A part of the proof: contracts of functions and plain laws; each theorem says its own conditions. -/
import Derived.Laws.OwnMore
import Derived.Test.YtjoepkpdanolkaaGreatDoorTopReckonedK2
import Derived.Test.YtjoepkpdanolkaaGreatDoorTopReckonedK6
import Derived.Test.YtjoepkpdanolkaaGreatDoorTopReckonedK1
import Derived.Test.YtjoepkpdanolkaaGreatDoorTopReckonedK3
set_option linter.unusedVariables false
set_option linter.unusedSimpArgs false
namespace Go.Proofs.YtjoepkpdanolkaaGreatDoor
open Go.RowKit Sx LexS ParS _root_.Go.Proofs.Tryz
/-- the graph's maker has gone on to the nodes 'N'' -/
def LoP (xb : Nat) (p0 p1 p2 : Value) (S : List Nat) (N' : List Nd) (s' : Nat) (w w' : World) : Prop := ∃ gv' q', RegP S (loS xb gv' q') (Lo xb p0 p1 p2 N' s' gv' q') w w'
abbrev loG (M : List Nat) (base xb : Nat) (p0 p1 p2 : Value) (N : List Nd) (s : Nat) (gv : Value) (q : Option (Nat × Nat × Nat)) : Res := reg M base (loS xb gv q) (Lo xb p0 p1 p2 N s gv q)
section
variable {n0 : Nat}

/-- what 'value' does with an expression -/
def ValC (n0 xb : Nat) (p0 p1 p2 : Value) (e : Ex) : Prop := ∀ (N : List Nd) (s : Nat), s + szE e ≤ 4000000 → ∀ (gv : Value) (q : Option (Nat × Nat × Nat)) (l : List Value) (w : World), ExV w (· < n0) e l → (∀ k ∈ loS xb gv q, n0 ≤ k) → Lo xb p0 p1 p2 N s gv q w →
    Ret Tryz.prog 128 [.pointer (some ⟨xb, 0, none⟩), .agg l.toArray] w fun v w' => v = .agg (vlC (low e s).2.2).toArray ∧ LoP xb p0 p1 p2 (loS xb gv q) (N ++ (low e s).1) (low e s).2.1 w w'

theorem lval1 (xb : Nat) (p0 p1 p2 : Value) (e : Ex) (hk1 : e.k = 1) : ValC n0 xb p0 p1 p2 e := by
 intro N s hsz gv q l w hV hS0 hLo
 obtain ⟨oa, cap, rfl, hr⟩ := ExV.inv hV
 refine ret_of [_, _] func128 rfl ntmps128 rfl ?_
 have st := St.init w []
 obtain ⟨w0, rfl⟩ : ∃ w0, w0 = w := ⟨_, rfl⟩
 have hn0 : n0 ≤ w0.heap.size := Nat.le_trans (hS0 xb (.head _)) (Nat.le_of_lt (hLo.reg.2.1 xb (.head _)))
 replace st := St.regInit hLo.reg
 refine sr ?_
 refine vc_e (e_bx (l := [_, _, _, _, _, _]) st rfl rfl rfl rfl ?_)
 intro b3 w hb3 st
 refine vc_e (e_al (l := [_, _, _]) st rfl rfl zeroValue101 rfl ?_)
 intro b4 w hb4 st
 refine et (vk3 0 3 4 (vc_seq (sr ?_)))
 refine vy (y_fa0 rfl underlying27 rfl rfl sizeOf23 rfl) ?_
 refine vy ((by exact y_ld st 1 rfl isAgg23 rfl rfl)) ?_
 refine et (vk4 0 3 4 9 (vc_block (sr ?_)))
 refine vy (y_eqi rfl rfl) ?_
 refine ya ?_
 refine et (vk5 0 3 4 9 10 ?_)
 refine vif ?_ ?_
 ·intro hc10
  try simp only [dn] at hc10
  refine sr ?_
  refine vy ((by exact y_faz (k := 2) rfl underlying27 rfl rfl sizeOf2 rfl)) ?_
  refine vy ((by exact y_ld st 1 rfl isAgg2 rfl rfl)) ?_
  refine vy (ybd (.agg #[_, _, _]) [(2, _)]) ?_
  refine vc_e (e_sts (vs := [_, _, _]) st 0 rfl rfl rfl rfl rfl sizeOf101 rfl rfl (by (right; assumption)) ?_)
  intro w st; dsimp only [setNth, wr] at st
  refine et (vk1 4 (vc_ret (vq_block_ret (vq_then_ret ?_))))
  refine vq_ret1 st (.inl rfl) results128 (by exact .cell 0 rfl rfl isAgg101 sizeOf101) ?_
  refine ⟨_, rfl, ?_⟩
  rw [lw_1 hk1]
  exact ⟨rfl, gv, q, by simpa using st.regDone (i := 2) rfl⟩
 intro hc10
 exfalso; simp only [decide_eq_false_iff_not] at hc10; omega
set_option maxHeartbeats 1000000 in
theorem lval3 (xb : Nat) (p0 p1 p2 : Value) (e x : Ex) (d : Nat) (hk3 : e.k = 3) (hop : e.op = 17 ∨ e.op = 18) (hkk : e.kids = [x]) (hx0 : rightE x d = true) (hxk : (rkX x).2 = true) (hcx : ValC n0 xb p0 p1 p2 x) : ValC n0 xb p0 p1 p2 e := by
 intro N s hsz gv q l w hV hS0 hLo
 obtain ⟨oa, cap, rfl, hr⟩ := ExV.inv hV
 refine ret_of [_, _] func128 rfl ntmps128 rfl ?_
 have st := St.init w []
 obtain ⟨w0, rfl⟩ : ∃ w0, w0 = w := ⟨_, rfl⟩
 have hn0 : n0 ≤ w0.heap.size := Nat.le_trans (hS0 xb (.head _)) (Nat.le_of_lt (hLo.reg.2.1 xb (.head _)))
 replace st := St.regInit hLo.reg
 have hx : e.kids[0]? = some x := by rw [hkk]; rfl
 obtain ⟨gb, go, rfl, hgS, hgl, hg⟩ := ExRow.at hr (by rw [hkk]; simp)
 have hgS2 : gb < n0 := hgS
 obtain ⟨o0, c0, hV0, hr0, hc0⟩ := hg 0 x hx
 have hl1 : 0 < e.kids.length := by rw [hkk]; simp
 have hzx := szE_kid hx
 have hup := low_up _ x rfl d hx0 hxk s
 have h2 : twoOp e.op = false := by simp only [twoOp, decide_eq_false_iff_not]; omega
 refine sr ?_
 refine vc_e (e_bx (l := [_, _, _, _, _, _]) st rfl rfl rfl rfl ?_)
 intro b3 w hb3 st
 refine vc_e (e_al (l := [_, _, _]) st rfl rfl zeroValue101 rfl ?_)
 intro b4 w hb4 st
 refine et (vk3 0 3 4 (vc_seq (sr ?_)))
 refine vy (y_fa0 rfl underlying27 rfl rfl sizeOf23 rfl) ?_
 refine vy ((by exact y_ld st 1 rfl isAgg23 rfl rfl)) ?_
 refine et (vk4 0 3 4 9 (vc_block (sr ?_)))
 refine vy (y_eqi rfl rfl) ?_
 refine ya ?_
 refine et (vk5 0 3 4 9 10 ?_)
 refine vif ?_ ?_
 ·intro hc10
  exfalso; simp only [decide_eq_true_eq] at hc10; omega
 intro hc10
 try simp only [dn] at hc10
 refine sr ?_
 refine vy (y_eqi rfl rfl) ?_
 refine ya ?_
 refine et (vk4 0 3 4 15 ?_)
 refine vif ?_ ?_
 ·intro hc15
  exfalso; simp only [decide_eq_true_eq] at hc15; omega
 intro hc15
 try simp only [dn] at hc15
 refine vc_code_skip (vq_block (vq_then (vk3 0 3 4 (vc_seq ?_))))
 refine vd_draw Tryz.mixed (.take 0 (.take 1 (.take 2 (.take 3 (.take 4 (.take 5 (.take 6 (.two 7 9 (.take 8 (.one 9 (.one 10 .done))) (.one 7 (.take 8 (.one 10 .done))))))))))) (fun w => St _ _ [.blk b4 (.cells [.bool false, .int .i64 0, .int .i64 0].toArray 101 (0, 0)), .blk b3 (.cells (exL e (some ⟨gb, go, none⟩) cap).toArray 27 (0, 0))] w) (by exact st.drop (by repeat (first | exact sl0 | apply sl1 | apply sl2))) (by kernel_rfl) (by repeat (first | exact okQ_noPan | exact okQ_body | exact okQ_bodyS | refine okQ_then ?_ | refine okQ_block ?_)) rfl (by kernel_rfl) ?_
 intro w cd; replace st := st.call0 cd; clear cd
 have hS : St _ _ [.blk b4 (.cells [.bool false, .int .i64 0, .int .i64 0].toArray 101 (0, 0)), .blk b3 (.cells (exL e (some ⟨gb, go, none⟩) cap).toArray 27 (0, 0))] w := (by exact st.drop (by repeat (first | exact sl0 | apply sl1 | apply sl2)))
 refine vd_take rfl rfl rfl hS (fun w st => (by exact y_faz (k := 1) rfl underlying27 rfl rfl sizeOf24 rfl)) ?_
 refine vd_take rfl rfl rfl hS (fun w st => (by exact y_ld st 1 rfl isAgg24 rfl rfl)) ?_
 refine dm hS ?_
 refine vd_take rfl rfl rfl hS (fun w st => (by exact y_faz (k := 4) rfl underlying27 rfl rfl sizeOf25 rfl)) ?_
 refine vd_take rfl rfl rfl hS (fun w st => (by exact y_ld st 1 rfl isAgg25 rfl rfl)) ?_
 refine vd_take rfl rfl rfl hS (fun w st => (by exact y_ia (k := 0) rfl rfl underlying25 sizeOf27 rfl (by omega))) ?_
 refine vd_take rfl rfl rfl hS (fun w st => (by exact y_ldca (exL x o0 c0) rfl isAgg27 sizeOf27 rfl (fun i v hi => st.chg.cell (hc0 i v hi) (fun hm => absurd (hS0 gb hm) (by omega))))) ?_
 refine vd_two rfl rfl ?_ ?_
 refine (e_call [_, _] rfl rfl call128 rfl (hcx N s (by omega) gv q _ _ (hV0.kept (.of_chg st.chg (fun b hb hm => absurd (hS0 b hm) (by omega)))) (fun k hk => by rcases (st.res (i := 2) rfl).1.2 k hk with h | h; exact hS0 k h; omega) (st.regGet (i := 2) rfl).1) ?_)
 rintro _ w ⟨rfl, gv1, q1, pp⟩
 replace st := st.regP (i := 2) rfl pp
 dsimp only [setNth] at st
 refine vd_next (by exact st.drop (by repeat (first | exact sl0 | apply sl1 | apply sl2))) ?_; intro hS
 refine vd_take rfl rfl rfl hS (fun w st => ybd (.agg #[_, _, _, _, _, _, _, _, _, _, _, _, _]) [(0, _), (1, _), (4, _)]) ?_
 refine vd_do rfl (e_al (l := [_, _, _, _, _, _, _, _, _, _, _, _, _]) st rfl rfl zeroValue103 rfl ?_)
 intro b7 w hb7 st
 refine vd_next (by exact st.drop (by repeat (first | exact sl0 | apply sl1 | apply sl2))) ?_; intro hS
 rotate_left
 refine (e_al (l := [_, _, _, _, _, _, _, _, _, _, _, _, _]) st rfl rfl zeroValue103 rfl ?_)
 intro b7 w hb7 st
 refine vd_next (by exact st.drop (by repeat (first | exact sl0 | apply sl1 | apply sl2))) ?_; intro hS
 refine vd_do rfl (e_call [_, _] rfl rfl call128 rfl (hcx N s (by omega) gv q _ _ (hV0.kept (.of_chg st.chg (fun b hb hm => absurd (hS0 b hm) (by omega)))) (fun k hk => by rcases (st.res (i := 3) rfl).1.2 k hk with h | h; exact hS0 k h; omega) (st.regGet (i := 3) rfl).1) ?_)
 rintro _ w ⟨rfl, gv1, q1, pp⟩
 replace st := st.regP (i := 3) rfl pp
 dsimp only [setNth] at st
 refine vd_next (by exact st.drop (by repeat (first | exact sl0 | apply sl1 | apply sl2))) ?_; intro hS
 refine vd_take rfl rfl rfl hS (fun w st => ybd (.agg #[_, _, _, _, _, _, _, _, _, _, _, _, _]) [(0, _), (1, _), (4, _)]) ?_
 all_goals
  refine vd_do rfl (e_sts (vs := [_, _, _, _, _, _, _, _, _, _, _, _, _]) st 0 rfl rfl rfl rfl rfl sizeOf103 rfl rfl (by (right; assumption)) ?_)
  intro w st; dsimp only [setNth, wr] at st
  refine vd_next (by exact st.drop (by repeat (first | exact sl0 | apply sl1 | apply sl2))) ?_; intro hS
  refine vd_end (vq_then (vk4 0 3 4 7 (vc_seq (sr ?_))))
  refine vy ((by exact y_faz (k := 1) rfl underlying27 rfl rfl sizeOf24 rfl)) ?_
  refine vy ((by exact y_ld st 2 rfl isAgg24 rfl rfl)) ?_
  refine vc_e (e_call [_] rfl rfl call32 rfl (two_any _ _) ?_)
  rintro _ _ ⟨rfl, rfl⟩
  refine et (vk5 0 3 4 7 59 ?_)
  refine vif ?_ ?_
  ·intro hc59
   exfalso; simp_all
  ·intro hc59
   try simp only [dn] at hc59
   refine kt (vk3 0 4 7 (sr ?_))
   refine ym ?_
   refine vc_e (e_call [_] rfl rfl call131 rfl (lslot_any xb p0 p1 p2 (N ++ (low x s).1) (low x s).2.1 (by omega) gv1 q1 _ (st.regGet (i := 3) rfl).1) ?_)
   rintro _ w ⟨rfl, pp⟩
   replace st := st.regP (i := 3) rfl pp
   dsimp only [setNth] at st
   refine vy ((by exact y_faz (k := 2) rfl underlying103 rfl rfl sizeOf3 rfl)) ?_
   refine vc_e (e_st st 0 rfl rfl rfl rfl sizeOf3 rfl rfl (by (right; assumption)) ?_)
   intro w st; dsimp only [setNth, wr] at st
   refine et (vk3 0 4 7 (sr ?_))
   refine ym ?_
   refine vy ((by exact y_lda (vs := [_, _, _, _, _, _, _, _, _, _, _, _, _]) st 0 rfl isAgg103 sizeOf103 rfl rfl)) ?_
   refine vc_e (e_call [_, _] rfl rfl call50 rfl (lput_any xb p0 p1 p2 (N ++ (low x s).1) ((low x s).2.1 + 1) gv1 q1 (.set e.op (low x s).2.1 (low x s).2.2 (.num 0)) _ (st.regGet (i := 3) rfl).1) ?_)
   rintro _ w ⟨⟨kk, rfl⟩, gv2, q2, pp⟩
   replace st := st.regP (i := 3) rfl pp
   dsimp only [setNth] at st
   refine et (vk2 4 7 (sr ?_))
   refine vy ((by exact y_faz (k := 2) rfl underlying103 rfl rfl sizeOf3 rfl)) ?_
   refine vy ((by exact y_ld st 0 rfl isAgg3 rfl rfl)) ?_
   refine vc_e (e_call [_] rfl rfl call132 rfl (lin_any _ _) ?_)
   rintro _ w ⟨rfl, cw⟩
   replace st := st.call0 cw
   refine vc_e (e_sts (vs := [_, _, _]) st 1 rfl rfl rfl rfl rfl sizeOf101 rfl rfl (by (right; assumption)) ?_)
   intro w st; dsimp only [setNth, wr] at st
   refine et (vk1 4 (vc_ret ?_))
   refine vq_ret1 st (.inl rfl) results128 (by exact .cell 1 rfl rfl isAgg101 sizeOf101) ?_
   refine ⟨_, rfl, ?_⟩
   rw [lw_3 hk3 hkk]
   refine ⟨rfl, gv2, q2, ?_⟩
   rw [← List.append_assoc]
   exact st.regDone (i := 3) rfl
set_option maxHeartbeats 1000000 in
theorem lval4 (xb : Nat) (p0 p1 p2 : Value) (e x y : Ex) (d d2 : Nat) (hk4 : e.k = 4) (hop : twoOp e.op = true) (hkk : e.kids = [x, y]) (hx0 : rightE x d = true) (hy0 : rightE y d2 = true) (hxk : (rkX x).2 = true) (hyk : (rkX y).2 = true) (hcx : ValC n0 xb p0 p1 p2 x) (hcy : ValC n0 xb p0 p1 p2 y) : ValC n0 xb p0 p1 p2 e := by
 intro N s hsz gv q l w hV hS0 hLo
 obtain ⟨oa, cap, rfl, hr⟩ := ExV.inv hV
 refine ret_of [_, _] func128 rfl ntmps128 rfl ?_
 have st := St.init w []
 obtain ⟨w0, rfl⟩ : ∃ w0, w0 = w := ⟨_, rfl⟩
 have hn0 : n0 ≤ w0.heap.size := Nat.le_trans (hS0 xb (.head _)) (Nat.le_of_lt (hLo.reg.2.1 xb (.head _)))
 replace st := St.regInit hLo.reg
 have hx : e.kids[0]? = some x := by rw [hkk]; rfl
 obtain ⟨gb, go, rfl, hgS, hgl, hg⟩ := ExRow.at hr (by rw [hkk]; simp)
 have hgS2 : gb < n0 := hgS
 obtain ⟨o0, c0, hV0, hr0, hc0⟩ := hg 0 x hx
 have hy : e.kids[1]? = some y := by rw [hkk]; rfl
 obtain ⟨o1, c1, hV1, hr1, hc1⟩ := hg 1 y hy
 have hl1 : 1 < e.kids.length := by rw [hkk]; simp
 have hzx := szE_kid hx
 have hzy : szE x + szE y < szE e := by
  have : szEs e.kids = szE x + szE y := by rw [hkk]; simp [szEs]
  cases e with
  | mk k op wd nm kids a => simp only [Ex.kids] at this; simp only [szE]; omega
 have hup := low_up _ x rfl d hx0 hxk s
 have hup2 := low_up _ y rfl d2 hy0 hyk (low x s).2.1
 refine sr ?_
 refine vc_e (e_bx (l := [_, _, _, _, _, _]) st rfl rfl rfl rfl ?_)
 intro b3 w hb3 st
 refine vc_e (e_al (l := [_, _, _]) st rfl rfl zeroValue101 rfl ?_)
 intro b4 w hb4 st
 refine et (vk3 0 3 4 (vc_seq (sr ?_)))
 refine vy (y_fa0 rfl underlying27 rfl rfl sizeOf23 rfl) ?_
 refine vy ((by exact y_ld st 1 rfl isAgg23 rfl rfl)) ?_
 refine et (vk4 0 3 4 9 (vc_block (sr ?_)))
 refine vy (y_eqi rfl rfl) ?_
 refine ya ?_
 refine et (vk5 0 3 4 9 10 ?_)
 refine vif ?_ ?_
 ·intro hc10
  exfalso; simp only [decide_eq_true_eq] at hc10; omega
 intro hc10
 try simp only [dn] at hc10
 refine sr ?_
 refine vy (y_eqi rfl rfl) ?_
 refine ya ?_
 refine et (vk4 0 3 4 15 ?_)
 refine vif ?_ ?_
 ·intro hc15
  exfalso; simp only [decide_eq_true_eq] at hc15; omega
 intro hc15
 try simp only [dn] at hc15
 refine vc_code_skip (vq_block (vq_then (vk3 0 3 4 (vc_seq ?_))))
 refine vd_draw Tryz.mixed (.take 0 (.take 1 (.take 2 (.take 3 (.take 4 (.take 5 (.take 6 (.two 7 9 (.take 8 (.one 9 (.one 10 .done))) (.one 7 (.take 8 (.one 10 .done))))))))))) (fun w => St _ _ [.blk b4 (.cells [.bool false, .int .i64 0, .int .i64 0].toArray 101 (0, 0)), .blk b3 (.cells (exL e (some ⟨gb, go, none⟩) cap).toArray 27 (0, 0))] w) (by exact st.drop (by repeat (first | exact sl0 | apply sl1 | apply sl2))) (by kernel_rfl) (by repeat (first | exact okQ_noPan | exact okQ_body | exact okQ_bodyS | refine okQ_then ?_ | refine okQ_block ?_)) rfl (by kernel_rfl) ?_
 intro w cd; replace st := st.call0 cd; clear cd
 have hS : St _ _ [.blk b4 (.cells [.bool false, .int .i64 0, .int .i64 0].toArray 101 (0, 0)), .blk b3 (.cells (exL e (some ⟨gb, go, none⟩) cap).toArray 27 (0, 0))] w := (by exact st.drop (by repeat (first | exact sl0 | apply sl1 | apply sl2)))
 refine vd_take rfl rfl rfl hS (fun w st => (by exact y_faz (k := 1) rfl underlying27 rfl rfl sizeOf24 rfl)) ?_
 refine vd_take rfl rfl rfl hS (fun w st => (by exact y_ld st 1 rfl isAgg24 rfl rfl)) ?_
 refine dm hS ?_
 refine vd_take rfl rfl rfl hS (fun w st => (by exact y_faz (k := 4) rfl underlying27 rfl rfl sizeOf25 rfl)) ?_
 refine vd_take rfl rfl rfl hS (fun w st => (by exact y_ld st 1 rfl isAgg25 rfl rfl)) ?_
 refine vd_take rfl rfl rfl hS (fun w st => (by exact y_ia (k := 0) rfl rfl underlying25 sizeOf27 rfl (by omega))) ?_
 refine vd_take rfl rfl rfl hS (fun w st => (by exact y_ldca (exL x o0 c0) rfl isAgg27 sizeOf27 rfl (fun i v hi => st.chg.cell (hc0 i v hi) (fun hm => absurd (hS0 gb hm) (by omega))))) ?_
 refine vd_two rfl rfl ?_ ?_
 refine (e_call [_, _] rfl rfl call128 rfl (hcx N s (by omega) gv q _ _ (hV0.kept (.of_chg st.chg (fun b hb hm => absurd (hS0 b hm) (by omega)))) (fun k hk => by rcases (st.res (i := 2) rfl).1.2 k hk with h | h; exact hS0 k h; omega) (st.regGet (i := 2) rfl).1) ?_)
 rintro _ w ⟨rfl, gv1, q1, pp⟩
 replace st := st.regP (i := 2) rfl pp
 dsimp only [setNth] at st
 refine vd_next (by exact st.drop (by repeat (first | exact sl0 | apply sl1 | apply sl2))) ?_; intro hS
 refine vd_take rfl rfl rfl hS (fun w st => ybd (.agg #[_, _, _, _, _, _, _, _, _, _, _, _, _]) [(0, _), (1, _), (4, _)]) ?_
 refine vd_do rfl (e_al (l := [_, _, _, _, _, _, _, _, _, _, _, _, _]) st rfl rfl zeroValue103 rfl ?_)
 intro b7 w hb7 st
 refine vd_next (by exact st.drop (by repeat (first | exact sl0 | apply sl1 | apply sl2))) ?_; intro hS
 rotate_left
 refine (e_al (l := [_, _, _, _, _, _, _, _, _, _, _, _, _]) st rfl rfl zeroValue103 rfl ?_)
 intro b7 w hb7 st
 refine vd_next (by exact st.drop (by repeat (first | exact sl0 | apply sl1 | apply sl2))) ?_; intro hS
 refine vd_do rfl (e_call [_, _] rfl rfl call128 rfl (hcx N s (by omega) gv q _ _ (hV0.kept (.of_chg st.chg (fun b hb hm => absurd (hS0 b hm) (by omega)))) (fun k hk => by rcases (st.res (i := 3) rfl).1.2 k hk with h | h; exact hS0 k h; omega) (st.regGet (i := 3) rfl).1) ?_)
 rintro _ w ⟨rfl, gv1, q1, pp⟩
 replace st := st.regP (i := 3) rfl pp
 dsimp only [setNth] at st
 refine vd_next (by exact st.drop (by repeat (first | exact sl0 | apply sl1 | apply sl2))) ?_; intro hS
 refine vd_take rfl rfl rfl hS (fun w st => ybd (.agg #[_, _, _, _, _, _, _, _, _, _, _, _, _]) [(0, _), (1, _), (4, _)]) ?_
 all_goals
  refine vd_do rfl (e_sts (vs := [_, _, _, _, _, _, _, _, _, _, _, _, _]) st 0 rfl rfl rfl rfl rfl sizeOf103 rfl rfl (by (right; assumption)) ?_)
  intro w st; dsimp only [setNth, wr] at st
  refine vd_next (by exact st.drop (by repeat (first | exact sl0 | apply sl1 | apply sl2))) ?_; intro hS
  refine vd_end (vq_then (vk4 0 3 4 7 (vc_seq (sr ?_))))
  refine vy ((by exact y_faz (k := 1) rfl underlying27 rfl rfl sizeOf24 rfl)) ?_
  refine vy ((by exact y_ld st 2 rfl isAgg24 rfl rfl)) ?_
  refine vc_e (e_call [_] rfl rfl call32 rfl (two_any _ _) ?_)
  rintro _ _ ⟨rfl, rfl⟩
  refine et (vk5 0 3 4 7 59 ?_)
  refine vif ?_ ?_
  ·intro hc59
   try simp only [dn] at hc59
   refine vc_region ?_
   refine ym ?_
   refine vy ((by exact y_faz (k := 4) rfl underlying27 rfl rfl sizeOf25 rfl)) ?_
   refine vy ((by exact y_ld st 2 rfl isAgg25 rfl rfl)) ?_
   refine vy ((by exact y_ia (k := 1) rfl rfl underlying25 sizeOf27 rfl (by omega))) ?_
   refine vy ((by exact y_ldca (exL y o1 c1) rfl isAgg27 sizeOf27 rfl (fun i v hi => st.chg.cell (hc1 i v hi) (fun hm => absurd (hS0 gb hm) (by omega))))) ?_
   refine vc_e (e_call [_, _] rfl rfl call128 rfl (hcy (N ++ (low x s).1) (low x s).2.1 (by omega) gv1 q1 _ _ (hV1.kept (.of_chg st.chg (fun b hb hm => absurd (hS0 b hm) (by omega)))) (fun k hk => by rcases (st.res (i := 3) rfl).1.2 k hk with h | h; exact hS0 k h; omega) (st.regGet (i := 3) rfl).1) ?_)
   rintro _ w ⟨rfl, gv2, q2, pp⟩
   replace st := st.regP (i := 3) rfl pp
   dsimp only [setNth] at st
   refine vy ((by exact y_faz (k := 7) rfl underlying103 rfl rfl sizeOf101 rfl)) ?_
   refine vc_e (e_sts (vs := [_, _, _]) st 0 rfl rfl rfl rfl rfl sizeOf101 rfl rfl (by (right; assumption)) ?_)
   intro w st; dsimp only [setNth, wr] at st
   refine et (vk3 0 4 7 (sr ?_))
   refine ym ?_
   refine vc_e (e_call [_] rfl rfl call131 rfl (lslot_any xb p0 p1 p2 ((N ++ (low x s).1) ++ (low y (low x s).2.1).1) (low y (low x s).2.1).2.1 (by omega) gv2 q2 _ (st.regGet (i := 3) rfl).1) ?_)
   rintro _ w ⟨rfl, pp⟩
   replace st := st.regP (i := 3) rfl pp
   dsimp only [setNth] at st
   refine vy ((by exact y_faz (k := 2) rfl underlying103 rfl rfl sizeOf3 rfl)) ?_
   refine vc_e (e_st st 0 rfl rfl rfl rfl sizeOf3 rfl rfl (by (right; assumption)) ?_)
   intro w st; dsimp only [setNth, wr] at st
   refine et (vk3 0 4 7 (sr ?_))
   refine ym ?_
   refine vy ((by exact y_lda (vs := [_, _, _, _, _, _, _, _, _, _, _, _, _]) st 0 rfl isAgg103 sizeOf103 rfl rfl)) ?_
   refine vc_e (e_call [_, _] rfl rfl call50 rfl (lput_any xb p0 p1 p2 ((N ++ (low x s).1) ++ (low y (low x s).2.1).1) ((low y (low x s).2.1).2.1 + 1) gv2 q2 (.set e.op (low y (low x s).2.1).2.1 (low x s).2.2 (low y (low x s).2.1).2.2) _ (st.regGet (i := 3) rfl).1) ?_)
   rintro _ w ⟨⟨kk, rfl⟩, gv3, q3, pp⟩
   replace st := st.regP (i := 3) rfl pp
   dsimp only [setNth] at st
   refine et (vk2 4 7 (sr ?_))
   refine vy ((by exact y_faz (k := 2) rfl underlying103 rfl rfl sizeOf3 rfl)) ?_
   refine vy ((by exact y_ld st 0 rfl isAgg3 rfl rfl)) ?_
   refine vc_e (e_call [_] rfl rfl call132 rfl (lin_any _ _) ?_)
   rintro _ w ⟨rfl, cw⟩
   replace st := st.call0 cw
   refine vc_e (e_sts (vs := [_, _, _]) st 1 rfl rfl rfl rfl rfl sizeOf101 rfl rfl (by (right; assumption)) ?_)
   intro w st; dsimp only [setNth, wr] at st
   refine et (vk1 4 (vc_ret ?_))
   refine vq_ret1 st (.inl rfl) results128 (by exact .cell 1 rfl rfl isAgg101 sizeOf101) ?_
   refine ⟨_, rfl, ?_⟩
   rw [lw_4 hk4 hkk]
   refine ⟨rfl, gv3, q3, ?_⟩
   rw [← List.append_assoc, ← List.append_assoc]
   exact st.regDone (i := 3) rfl
  ·intro hc59
   exfalso; simp_all
theorem lvalue_any (xb : Nat) (p0 p1 p2 : Value) : ∀ (n : Nat) (e : Ex), szo e = n → ∀ d, rightE e d = true → (rkX e).2 = true → ValC n0 xb p0 p1 p2 e := by
 intro n
 refine Nat.strongRecOn n fun n ih => ?_
 intro e hn d hr hk
 rcases num_form hr hk with ⟨h1, -⟩ | ⟨x, d', h1, hop, -, -, h5, hx, hkx⟩ | ⟨x, y, d', d2, h1, hop, -, -, h5, hx, hy, hkx, hky⟩
 ·exact lval1 xb p0 p1 p2 e h1
 ·have hm := memE_lt (e := e) (x := x) (by rw [h5]; exact .head _)
  exact lval3 xb p0 p1 p2 e x _ h1 hop h5 hx hkx (ih _ (by rw [← hn]; exact hm) x rfl _ hx hkx)
 ·have hm := memE_lt (e := e) (x := x) (by rw [h5]; exact .head _)
  have hm2 := memE_lt (e := e) (x := y) (by rw [h5]; exact .tail _ (.head _))
  exact lval4 xb p0 p1 p2 e x y _ _ h1 hop h5 hx hy hkx hky (ih _ (by rw [← hn]; exact hm) x rfl _ hx hkx) (ih _ (by rw [← hn]; exact hm2) y rfl _ hy hky)
end
end Go.Proofs.YtjoepkpdanolkaaGreatDoor


namespace Go.Proofs.YtjoepkpdanolkaaGreatDoor
open Go.RowKit Sx LexS ParS _root_.Go.Proofs.Tryz
section
variable {n0 : Nat}

theorem lprint_any (xb : Nat) (p0 p1 p2 : Value) (N : List Nd) (s : Nat) (gv : Value) (q : Option (Nat × Nat × Nat)) (e : Ex) (hsz : s + szE e ≤ 4000000) (oe : Option Addr) (ce : Nat) (v2 v3 : Option Addr) (c2 c3 : Nat) (a : Int) (w : World) (hE : Ex1 n0 w oe e) (hS0 : ∀ k ∈ loS xb gv q, n0 ≤ k) (hLo : Lo xb p0 p1 p2 N s gv q w) :
    Ret Tryz.prog 101 [.pointer (some ⟨xb, 0, none⟩), .agg (prC oe ce v2 v3 c2 c3 a).toArray] w fun v w' => LoP xb p0 p1 p2 (loS xb gv q) ((N ++ (low e s).1) ++ [.prt (low e s).2.2]) (low e s).2.1 w w' := by
 obtain ⟨⟨d, he1⟩, he2, he3, gb, go, o0, c0, rfl, hgn, hV, hc0⟩ := hE
 refine ret_of [_, _] func101 rfl ntmps101 rfl ?_
 have st := St.init w []
 obtain ⟨w0, rfl⟩ : ∃ w0, w0 = w := ⟨_, rfl⟩
 replace st := St.regInit hLo.reg
 refine sr ?_
 refine vc_e (e_bx (l := [_, _, _, _, _, _, _]) st rfl rfl rfl rfl ?_)
 intro b3 w hb3 st
 refine et (vk2 0 3 (vc_region ?_))
 iterate 2 refine ym ?_
 refine vy ((by exact y_faz (k := 3) rfl underlying171 rfl rfl sizeOf25 rfl)) ?_
 refine vy ((by exact y_ld st 0 rfl isAgg25 rfl rfl)) ?_
 refine vy ((by exact y_ia (k := 0) rfl rfl underlying25 sizeOf27 rfl (by omega))) ?_
 refine vy ((by exact y_ldca (exL e o0 c0) rfl isAgg27 sizeOf27 rfl (fun i v hi => st.chg.cell (hc0 i v hi) (fun hm => absurd (hS0 gb hm) (by omega))))) ?_
 refine vc_e (e_call [_, _] rfl rfl call128 rfl (lvalue_any xb p0 p1 p2 _ e rfl d he1 he2 N s hsz gv q _ _ (hV.kept (.of_chg st.chg (fun b hb hm => absurd (hS0 b hm) (by omega)))) hS0 (st.regGet (i := 1) rfl).1) ?_)
 rintro _ w ⟨rfl, gv1, q1, pp⟩
 replace st := st.regP (i := 1) rfl pp
 dsimp only [setNth] at st
 refine vy (ybd (.agg #[_, _, _, _, _, _, _, _, _, _, _, _, _]) [(0, _), (4, _)]) ?_
 refine vc_e (e_call [_, _] rfl rfl call50 rfl (lput_any xb p0 p1 p2 (N ++ (low e s).1) (low e s).2.1 gv1 q1 (.prt (low e s).2.2) _ (st.regGet (i := 1) rfl).1) ?_)
 rintro _ w ⟨⟨kk, rfl⟩, gv2, q2, pp⟩
 replace st := st.regP (i := 1) rfl pp
 dsimp only [setNth] at st
 refine vc_end ?_
 refine vq_ret0 (.inr rfl) results101 ?_
 refine ⟨_, rfl, ?_⟩
 exact ⟨gv2, q2, st.regDone (i := 1) rfl⟩
set_option maxHeartbeats 1000000 in
theorem lblock_any (xb : Nat) (p0 p1 p2 : Value) (gv : Value) (q : Option (Nat × Nat × Nat)) (e : Ex) (ob : Option Addr) (cb : Nat) (w : World) (hP : Pr1 n0 w ob e) (hS0 : ∀ k ∈ loS xb gv q, n0 ≤ k) (hLo : Lo xb p0 p1 p2 [] 0 gv q w) :
    Ret Tryz.prog 49 [.pointer (some ⟨xb, 0, none⟩), .slice ob 1 cb] w fun v w' => LoP xb p0 p1 p2 (loS xb gv q) ((low e 0).1 ++ [.prt (low e 0).2.2]) (low e 0).2.1 w w' := by
 obtain ⟨sb, so, oe, ce, v2, v3, c2, c3, a, rfl, hsn, hE, hsc⟩ := hP
 have hE3 := hE.2.2.1
 refine ret_of [_, _] func49 rfl ntmps49 rfl ?_
 have st := St.init w []
 obtain ⟨w0, rfl⟩ : ∃ w0, w0 = w := ⟨_, rfl⟩
 replace st := St.regInit hLo.reg
 refine sr ?_
 refine vy (ybd (.agg #[_, _, _, _, _, _, _, _]) [(1, _), (2, _), (3, _), (4, _), (5, _), (6, _), (7, _)]) ?_
 refine vc_e (e_al (l := [_, _, _, _, _, _, _, _]) st rfl rfl zeroValue168 rfl ?_)
 intro b4 w hb4 st
 refine vc_e (e_sts (vs := [_, _, _, _, _, _, _, _]) st 0 rfl rfl rfl rfl rfl sizeOf168 rfl rfl (by (right; assumption)) ?_)
 intro w st; dsimp only [setNth, wr] at st
 refine et (vk3 0 1 4 (sr ?_))
 refine ym ?_
 refine vy (y_lensl rfl underlying141) ?_
 refine ym ?_
 refine et (vk5 0 4 8 9 10 (vc_block ?_))
 refine vc_loop (w0 := w0) (M := (loS xb gv q)) (fun (x : Option (Value × Option (Nat × Nat × Nat))) => [(0, .pointer (some ⟨xb, 0, none⟩)), (4, .pointer (some ⟨b4, 0, none⟩)), (8, .slice (some ⟨sb, so, none⟩) 1 cb), (9, .int .i64 1), (10, .int .i64 (if x.isSome = true then 1 else 0))]) (fun x => [.blk b4 (.cells [.nilFunc, .func (.func 96) #[] #[], .func (.func 97) #[] #[], .func (.func 98) #[] #[], .func (.func 99) #[] #[], .func (.func 100) #[] #[], .func (.func 101) #[] #[], .func (.func 102) #[] #[]].toArray 168 (0, 0)), (match x with | none => loG (loS xb gv q) w0.heap.size xb p0 p1 p2 [] 0 gv q | some (gv', q') => loG (loS xb gv q) w0.heap.size xb p0 p1 p2 ((low e 0).1 ++ [.prt (low e 0).2.2]) (low e 0).2.1 gv' q')]) (fun x w' => True) (fun x => if x.isSome = true then 0 else 1) none ⟨rfl, rfl, rfl, rfl, rfl, trivial⟩ st trivial ?_
 clear st
 intro x w _ st
 refine sr ?_
 refine vy (y_lss rfl rfl) ?_
 refine et (vk6 0 4 8 9 10 11 (vc_seq ?_))
 refine vif ?_ ?_
 ·intro hc11
  try simp only [dn] at hc11
  have hx : x = none := by
   match x, hc11 with
   | none, _ => rfl
   | some _, h => simp at h
  subst hx
  dsimp only at st
  refine kt (vk5 0 4 8 9 10 (vc_seq (vc_block (sr ?_))))
  refine vy ((by exact y_ia (k := 0) rfl rfl underlying141 sizeOf171 rfl (by omega))) ?_
  refine vy ((by exact y_ldca (prC oe ce v2 v3 c2 c3 a) rfl isAgg171 sizeOf171 rfl (fun i v hi => st.chg.cell (hsc i v hi) (fun hm => absurd (hS0 sb hm) (by omega))))) ?_
  refine vc_e (e_al (l := [_, _, _, _, _, _, _]) st rfl rfl zeroValue171 rfl ?_)
  intro b6 w hb6 st
  refine vc_e (e_sts (vs := [_, _, _, _, _, _, _]) st 0 rfl rfl rfl rfl rfl sizeOf171 rfl rfl (by (right; assumption)) ?_)
  intro w st; dsimp only [setNth, wr] at st
  refine et (vk6 0 4 6 8 9 10 (vc_seq (sr ?_)))
  refine ym ?_
  refine ynk ?_
  refine vy ((by exact y_faz (k := 9) rfl underlying147 rfl rfl sizeOf4 rfl)) ?_
  refine vy ((by exact y_ldc rfl isAgg4 (cell_blk ((st.regGet (i := 2) rfl).1.cell) rfl))) ?_
  refine et (vk7 0 4 6 8 9 10 17 ?_)
  refine vif ?_ ?_
  ·intro hc17
   exfalso; revert hc17; decide
  intro hc17
  try simp only [dn] at hc17
  refine kt (vk6 0 4 6 8 9 10 ?_)
  refine vc_draw Tryz.mixed [(0, true), (1, true), (2, true), (3, true), (4, true), (5, true), (6, false)] (fun w => St _ _ [.blk b6 (.cells (prC oe ce v2 v3 c2 c3 a).toArray 171 (0, 0)), .blk b4 (.cells [.nilFunc, .func (.func 96) #[] #[], .func (.func 97) #[] #[], .func (.func 98) #[] #[], .func (.func 99) #[] #[], .func (.func 100) #[] #[], .func (.func 101) #[] #[], .func (.func 102) #[] #[]].toArray 168 (0, 0))] w) (by exact st.drop (by repeat (first | exact sl0 | apply sl1 | apply sl2))) (by kernel_rfl) (by repeat (first | exact okQ_noPan | exact okQ_body | exact okQ_bodyS | refine okQ_then ?_ | refine okQ_block ?_)) rfl (by kernel_rfl) ?_
  intro w cd; replace st := st.call0 cd; clear cd
  have hS : St _ _ [.blk b6 (.cells (prC oe ce v2 v3 c2 c3 a).toArray 171 (0, 0)), .blk b4 (.cells [.nilFunc, .func (.func 96) #[] #[], .func (.func 97) #[] #[], .func (.func 98) #[] #[], .func (.func 99) #[] #[], .func (.func 100) #[] #[], .func (.func 101) #[] #[], .func (.func 102) #[] #[]].toArray 168 (0, 0))] w := (by exact st.drop (by repeat (first | exact sl0 | apply sl1 | apply sl2)))
  refine pf0 hS underlying171 sizeOf169 ?_
  refine vp_take rfl rfl rfl hS (fun w st => (by exact y_ld st 0 rfl isAgg169 rfl rfl)) ?_
  refine vp_take rfl rfl rfl hS (fun w st => y_iaa (k := 6) rfl rfl underlying168 sizeOf166 rfl (by omega)) ?_
  refine vp_take rfl rfl rfl hS (fun w st => (by exact y_ld st 1 rfl isAgg166 rfl rfl)) ?_
  refine pm hS ?_
  refine vp_take rfl rfl rfl hS (fun w st => (by exact y_lda (vs := [_, _, _, _, _, _, _]) st 0 rfl isAgg171 sizeOf171 rfl rfl)) ?_
  refine vp_do rfl (e_callv [_, _] rfl rfl rfl call101 rfl (lprint_any (n0 := n0) xb p0 p1 p2 [] 0 gv q e (by omega) oe ce v2 v3 c2 c3 a _ (hE.kept st.chg hS0) hS0 (st.regGet (i := 2) rfl).1) ?_)
  rintro _ w ⟨gv1, q1, pp⟩
  replace st := st.regP (i := 2) rfl pp
  dsimp only [setNth] at st
  rw [List.nil_append] at st
  refine vp_next (by exact st.drop (by repeat (first | exact sl0 | apply sl1 | apply sl2))) ?_; intro hS
  refine vp_end (vq_block (vq_then (vk5 0 4 8 9 10 (vc_region ?_))))
  refine vy (y_add rfl rfl (by simp : _ = (1 : Int)) (by omega) (by omega)) ?_
  refine ym ?_
  refine vc_end ?_
  refine vq_again (some (gv1, q1))  ⟨rfl, rfl, rfl, rfl, rfl, trivial⟩ (st.drop (.cons _ (List.Sublist.refl _))) ?_ ?_
  ·trivial
  simp
 intro hc11
 try simp only [dn] at hc11
 obtain ⟨⟨gv1, q1⟩, rfl⟩ : ∃ d, x = some d := by
  match x, hc11 with
  | none, h => simp at h
  | some d, _ => exact ⟨d, rfl⟩
 dsimp only at st
 refine vc_exit (vq_then_exit (vq_then_exit (vq_block_exit ?_)))
 refine vq_ret0 (.inr rfl) results49 ?_
 refine ⟨_, rfl, ?_⟩
 exact ⟨gv1, q1, st.regDone (i := 1) rfl⟩
end
end Go.Proofs.YtjoepkpdanolkaaGreatDoor


namespace Go.Proofs.YtjoepkpdanolkaaGreatDoor
open Go.RowKit Sx LexS ParS _root_.Go.Proofs.Tryz
theorem Tryz.info95 : Tryz.prog.info? 95 = some Tryz.t95 := by kernel_rfl
theorem Tryz.info98 : Tryz.prog.info? 98 = some Tryz.t98 := by kernel_rfl
theorem _root_.Sx.St.loOpen {w0 w : World} {M : List Nat} {hs : List Res} {xb : Nat} {p0 p1 p2 : Value} {N : List Nd} {s : Nat} {gv : Value} {q : Option (Nat × Nat × Nat)} (st : St w0 M (loG M w0.heap.size xb p0 p1 p2 N s gv q :: hs) w) :
    St w0 M (.blk xb (.cells (loC p0 p1 p2 s gv (opV q) (decide (4096 < N.length))).toArray 147 (0, 0)) :: frnZ M w0.heap.size 103 13 gv (rl N).length (linO (rl N) 0 0) :: hs) w := by
 obtain ⟨⟨h, hm⟩, -, -⟩ := st.res (i := 0) rfl
 have hnd := h.nd
 rw [loS, List.nodup_cons] at hnd
 obtain ⟨d1, -⟩ := hnd
 have h0 := (List.pairwise_cons.1 st.nodup).1
 have hm2 : ∀ k, gv.ownBlock = some k → k ∈ loS xb gv q := fun k hk => .tail _ (List.mem_append.2 (.inl (Option.mem_toList.2 hk)))
 refine ((st.drop (hs' := hs) (.cons _ (List.Sublist.refl _))).add (r := frnZ M w0.heap.size 103 13 gv (rl N).length (linO (rl N) 0 0)) (frnZ_holds h.row (fun k hk => hm k (hm2 k hk))) ?_).addB h.cell ?_
 ·intro x hx k hk
  exact h0 x hx k (hm2 k (by simpa [frnZ, Res.at?] using hk))
 intro x hx
 rcases List.mem_cons.1 hx with rfl | hx
 ·intro hk
  exact d1 (List.mem_append.2 (.inl hk))
 ·exact h0 x hx xb (.head _)
/-- a unit of one graph lies there -/
def UG (w : World) (gb nb nc : Nat) (N : List Nd) (s : Nat) : Prop := (∀ (i : Nat) c, ([str [97], .int .i64 0, .int .i64 (s : Int), .slice (some ⟨nb, 0, none⟩) N.length nc] : List Value)[i]? = some c → w.cell? ⟨gb, i, none⟩ = some c) ∧ ∀ (i : Nat) c, (linO N 0 0)[i]? = some c → w.cell? ⟨nb, i, none⟩ = some c
theorem ug_holds {base gb nb nc s : Nat} {N : List Nd} {w : World} (h : UG w gb nb nc N s) (hN : 0 < N.length) : (Res.tree [gb, nb] fun w => UG w gb nb nc N s).holds base w := by
 refine ⟨h, fun k hk => ?_, fun a b hs hk h => ?_⟩
 ·simp only [List.mem_cons, List.not_mem_nil, or_false] at hk
  rcases hk with rfl | rfl
  ·exact World.block_lt_of_cell? w _ (h.1 0 _ rfl)
  ·exact World.block_lt_of_cell? w _ (h.2 0 _ (List.getElem?_eq_getElem (by rw [linO_len]; omega)))
 have c1 : ∀ g ∈ [gb, nb], ∀ i, b.cell? ⟨g, i, none⟩ = a.cell? ⟨g, i, none⟩ := fun g hg i => by
  exact World.cell?_of_block (hk g hg)
 exact ⟨fun i c e => by rw [c1 gb (by simp)]; exact h.1 i c e, fun i c e => by rw [c1 nb (by simp)]; exact h.2 i c e⟩
/-- what the loop over the threads holds -/
abbrev LwX := Option (Option Addr × Nat × Nat × Nat)
def lwU (o21 : Option Addr) (c21 : Nat) (o24 : Option Addr) (c24 : Nat) : LwX → List Value
 | none => [.slice o21 0 c21, .slice o24 0 c24, .slice none 0 0]
 | some (ga, gc, nb, nc) => [.slice o21 0 c21, .slice o24 0 c24, .slice ga 1 gc]
def lwG (e : Ex) : LwX → Res
 | none => .tree [] (fun _ => True)
 | some (ga, gc, nb, nc) => .own (.slice ga 1 gc) 98 4 1 [str [97], .int .i64 0, .int .i64 ((low e 0).2.1 : Int), .slice (some ⟨nb, 0, none⟩) (((low e 0).1 ++ [Nd.prt (low e 0).2.2]) ++ [Nd.fin]).length nc]
def lwN (base : Nat) (e : Ex) (r : Res) : LwX → Res
 | none => r
 | some (ga, gc, nb, nc) => frnZ [] base 103 13 (.slice (some ⟨nb, 0, none⟩) (((low e 0).1 ++ [Nd.prt (low e 0).2.2]) ++ [Nd.fin]).length nc) (((low e 0).1 ++ [Nd.prt (low e 0).2.2]) ++ [Nd.fin]).length (linO (((low e 0).1 ++ [Nd.prt (low e 0).2.2]) ++ [Nd.fin]) 0 0)
def LowPost (e : Ex) (w : World) (v : Value) (w' : World) : Prop := Chg [] w w' ∧ ((∃ k, v = .tuple #[.agg [.slice none 0 0, .slice none 0 0, .slice none 0 0].toArray, .int .i64 k] ∧ k ≠ 0) ∨ ∃ o1 c1 o2 c2 gb gc nb nc, v = .tuple #[.agg [.slice o1 0 c1, .slice o2 0 c2, .slice (some ⟨gb, 0, none⟩) 1 gc].toArray, .int .i64 0] ∧ (((low e 0).1 ++ [Nd.prt (low e 0).2.2]) ++ [Nd.fin]).length ≤ 4096 ∧ w.heap.size ≤ gb ∧ w.heap.size ≤ nb ∧ UG w' gb nb nc (((low e 0).1 ++ [Nd.prt (low e 0).2.2]) ++ [Nd.fin]) (low e 0).2.1)

set_option maxHeartbeats 4000000 in
theorem llower_any (os ol oc ob : Option Addr) (cs cl ct cc cb tb to_ : Nat) (a : Int) (e : Ex) (n : Nat) (w : World) (hn : n ≤ w.heap.size) (htn : tb < n) (hp : Pr1 n w ob e) (htc : ∀ (i : Nat) v, ([str [97], .slice oc 0 cc, .slice ob 1 cb, .int .i64 a] : List Value)[i]? = some v → w.cell? ⟨tb, to_ + 0 * 4 + i, none⟩ = some v) : Ret Tryz.prog 25 [.agg [.slice os 0 cs, .slice ol 0 cl, .slice (some ⟨tb, to_, none⟩) 1 ct].toArray] w (LowPost e w) := by
 refine ret_of [_] func25 rfl ntmps25 rfl ?_
 have st := St.init w []
 obtain ⟨w0, rfl⟩ : ∃ w0, w0 = w := ⟨_, rfl⟩
 refine sr ?_
 refine vc_e (e_bx (l := [_, _, _]) st rfl rfl rfl rfl ?_)
 intro b1 w hb1 st
 refine vc_e (e_al (l := [_, _, _]) st rfl rfl zeroValue40 rfl ?_)
 intro b2 w hb2 st
 refine ya ?_
 refine et (vk2 1 2 (vc_seq (sr ?_)))
 refine vy ((by exact y_lda (vs := [_, _, _]) st 1 rfl isAgg81 sizeOf81 rfl rfl)) ?_
 refine vc_e (e_call [_] rfl rfl call48 rfl (ccheck_any os ol oc ob cs cl ct cc cb tb to_ a e n _ (Nat.le_trans hn st.chg.size) htn (hp.kept st.chg (by simp)) (fun i v hi => st.chg.cell (htc i v hi) (by simp))) ?_)
 rintro _ w ⟨⟨ck, fp, fr, rfl⟩, cw⟩
 replace st := st.call0 cw
 refine ym ?_
 iterate 2 refine vy (y_ext rfl rfl) ?_
 refine vc_e (e_al (l := [_, _]) st rfl rfl zeroValue30 rfl ?_)
 intro b5 w hb5 st
 refine ya ?_
 refine vc_e (e_sts (vs := [_, _]) st 0 rfl rfl rfl rfl rfl sizeOf30 rfl rfl (by (right; assumption)) ?_)
 intro w st; dsimp only [setNth, wr] at st
 refine et (vk3 1 2 4 (sr ?_))
 refine ym ?_
 refine vy (y_nei rfl rfl) ?_
 refine et (vk4 1 2 4 16 ?_)
 refine vif ?_ ?_
 ·intro hc16
  try simp only [dn] at hc16
  refine sr ?_
  refine vy (ybd (.agg #[_, _, _]) []) ?_
  refine ym ?_
  refine vc_e (e_sts (vs := [_, _, _]) st 1 rfl rfl rfl rfl rfl sizeOf40 rfl rfl (by (right; assumption)) ?_)
  intro w st; dsimp only [setNth, wr] at st
  refine ya ?_
  refine et (vk2 2 3 (vc_ret (vq_then_ret ?_)))
  refine vq_ret2 st (.inl rfl) results25 (by exact .cell 1 rfl rfl isAgg40 sizeOf40) (.tmp rfl) ?_
  refine ⟨_, rfl, ?_⟩
  exact ⟨st.chg, .inl ⟨_, rfl, by simpa using hc16⟩⟩
 intro hc16
 try simp only [dn] at hc16
 refine kt (vk2 1 2 ?_)
 refine vc_cut (w0 := w0) (M := []) (fun (x : Nat × Option Addr × Nat × Option Addr × Nat) => [(1, .pointer (some ⟨b1, 0, none⟩)), (2, .pointer (some ⟨b2, 0, none⟩)), (6, .pointer (some ⟨x.1, 0, none⟩))]) (fun x => [.blk x.1 (.cells [.slice x.2.1 0 x.2.2.1, .slice x.2.2.2.1 0 x.2.2.2.2, .slice none 0 0].toArray 40 (0, 0)), .blk b2 (.cells [.slice none 0 0, .slice none 0 0, .slice none 0 0].toArray 40 (0, 0)), .blk b1 (.cells [.slice os 0 cs, .slice ol 0 cl, .slice (some ⟨tb, to_, none⟩) 1 ct].toArray 81 (0, 0))]) (fun x w => w0.heap.size ≤ x.1) ?_ ?_
 ·replace st := (st.ownNil 95 3).ownNil 95 3
  refine vd_draw Tryz.mixed (.take 0 (.take 1 (.take 3 (.take 4 (.two 2 7 (.two 5 7 (.take 6 (.one 7 (.one 8 .done))) (.one 5 (.take 6 (.one 8 .done)))) (.one 2 (.one 5 (.take 6 (.one 8 .done))))))))) (fun w => St _ _ [.blk b1 (.cells [.slice os 0 cs, .slice ol 0 cl, .slice (some ⟨tb, to_, none⟩) 1 ct].toArray 81 (0, 0))] w) (by exact st.drop (by repeat (first | exact sl0 | apply sl1 | apply sl2))) (by kernel_rfl) (by repeat (first | exact okQ_noPan | exact okQ_body | exact okQ_bodyS | refine okQ_then ?_ | refine okQ_block ?_)) rfl (by kernel_rfl) ?_
  intro w cd; replace st := st.call0 cd; clear cd
  have hS : St _ _ [.blk b1 (.cells [.slice os 0 cs, .slice ol 0 cl, .slice (some ⟨tb, to_, none⟩) 1 ct].toArray 81 (0, 0))] w := (by exact st.drop (by repeat (first | exact sl0 | apply sl1 | apply sl2)))
  refine df0 hS underlying81 sizeOf37 ?_
  refine vd_take rfl rfl rfl hS (fun w st => (by exact y_ld st 0 rfl isAgg37 rfl rfl)) ?_
  refine vd_take rfl rfl rfl hS (fun w st => (by exact y_faz (k := 1) rfl underlying81 rfl rfl sizeOf37 rfl)) ?_
  refine vd_take rfl rfl rfl hS (fun w st => (by exact y_ld st 0 rfl isAgg37 rfl rfl)) ?_
  refine vd_two rfl rfl ?_ ?_
  focus
   refine (e_appr (bytes := 32) (len' := 0) (ys := []) st 0 rfl rfl rfl rfl rfl (.inl rfl) underlying37 Tryz.info95 rfl rfl rfl rfl rfl rfl (by simp) (by decide) (by decide) rfl rfl ?_)
   intro o21 c21 w st; dsimp only [setNth] at st
   refine vd_next (by exact st.drop (by repeat (first | exact sl0 | apply sl1 | apply sl2))) ?_; intro hS
   refine vd_two rfl rfl ?_ ?_
   refine (e_appr (bytes := 32) (len' := 0) (ys := []) st 1 rfl rfl rfl rfl rfl (.inl rfl) underlying37 Tryz.info95 rfl rfl rfl rfl rfl rfl (by simp) (by decide) (by decide) rfl rfl ?_)
   intro o24 c24 w st; dsimp only [setNth] at st
   refine vd_next (by exact st.drop (by repeat (first | exact sl0 | apply sl1 | apply sl2))) ?_; intro hS
   refine vd_take rfl rfl rfl hS (fun w st => ybd (.agg #[_, _, _]) [(0, _), (1, _)]) ?_
   refine vd_do rfl (e_al (l := [_, _, _]) st rfl rfl zeroValue40 rfl ?_)
   intro b6 w hb6 st
   refine vd_next (by exact st.drop (by repeat (first | exact sl0 | apply sl1 | apply sl2))) ?_; intro hS
   rotate_left
   refine (e_al (l := [_, _, _]) st rfl rfl zeroValue40 rfl ?_)
   intro b6 w hb6 st
   refine vd_next (by exact st.drop (by repeat (first | exact sl0 | apply sl1 | apply sl2))) ?_; intro hS
   refine vd_do rfl (e_appr (bytes := 32) (len' := 0) (ys := []) st 2 rfl rfl rfl rfl rfl (.inl rfl) underlying37 Tryz.info95 rfl rfl rfl rfl rfl rfl (by simp) (by decide) (by decide) rfl rfl ?_)
   intro o24 c24 w st; dsimp only [setNth] at st
   refine vd_next (by exact st.drop (by repeat (first | exact sl0 | apply sl1 | apply sl2))) ?_; intro hS
   refine vd_take rfl rfl rfl hS (fun w st => ybd (.agg #[_, _, _]) [(0, _), (1, _)]) ?_
  rotate_left 2
  refine (e_al (l := [_, _, _]) st rfl rfl zeroValue40 rfl ?_)
  intro b6 w hb6 st
  refine vd_next (by exact st.drop (by repeat (first | exact sl0 | apply sl1 | apply sl2))) ?_; intro hS
  refine vd_do rfl (e_appr (bytes := 32) (len' := 0) (ys := []) st 1 rfl rfl rfl rfl rfl (.inl rfl) underlying37 Tryz.info95 rfl rfl rfl rfl rfl rfl (by simp) (by decide) (by decide) rfl rfl ?_)
  intro o21 c21 w st; dsimp only [setNth] at st
  refine vd_next (by exact st.drop (by repeat (first | exact sl0 | apply sl1 | apply sl2))) ?_; intro hS
  refine vd_do rfl (e_appr (bytes := 32) (len' := 0) (ys := []) st 2 rfl rfl rfl rfl rfl (.inl rfl) underlying37 Tryz.info95 rfl rfl rfl rfl rfl rfl (by simp) (by decide) (by decide) rfl rfl ?_)
  intro o24 c24 w st; dsimp only [setNth] at st
  refine vd_next (by exact st.drop (by repeat (first | exact sl0 | apply sl1 | apply sl2))) ?_; intro hS
  refine vd_take rfl rfl rfl hS (fun w st => ybd (.agg #[_, _, _]) [(0, _), (1, _)]) ?_
  all_goals
   refine vd_do rfl (e_sts (vs := [_, _, _]) st 0 rfl rfl rfl rfl rfl sizeOf40 rfl rfl (by (right; assumption)) ?_)
   intro w st; dsimp only [setNth, wr] at st
   refine vd_next (by exact st.drop (by repeat (first | exact sl0 | apply sl1 | apply sl2))) ?_; intro hS
   refine vd_end ?_
   refine vq_meet (b6, o21, c21, o24, c24) ⟨rfl, rfl, rfl, trivial⟩ (st.pick [0, 4, 5] rfl (by decide)) ?_
   ·exact hb6
 clear st
 rintro ⟨b6, o21, c21, o24, c24⟩ w hb6 st
 dsimp only at hb6 st ⊢
 refine vc_seq (sr ?_)
 refine vy ((by exact y_faz (k := 2) rfl underlying81 rfl rfl sizeOf79 rfl)) ?_
 refine vy ((by exact y_ld st 2 rfl isAgg79 rfl rfl)) ?_
 refine vy (y_lensl rfl underlying79) ?_
 refine ym ?_
 refine et (vk6 1 2 6 27 28 29 (vc_block ?_))
 refine vc_loop (w0 := w0) (M := []) (fun (x : Option (Option Addr × Nat × Nat × Nat)) => [(1, .pointer (some ⟨b1, 0, none⟩)), (2, .pointer (some ⟨b2, 0, none⟩)), (6, .pointer (some ⟨b6, 0, none⟩)), (27, .slice (some ⟨tb, to_, none⟩) 1 ct), (28, .int .i64 1), (29, .int .i64 (if x.isSome = true then 1 else 0))]) (fun x => [lwG e x, .blk b6 (.cells (lwU o21 c21 o24 c24 x).toArray 40 (0, 0)), .blk b2 (.cells ([.slice none 0 0, .slice none 0 0, .slice none 0 0] : List Value).toArray 40 (0, 0)), lwN w0.heap.size e (.blk b1 (.cells ([.slice os 0 cs, .slice ol 0 cl, .slice (some ⟨tb, to_, none⟩) 1 ct] : List Value).toArray 81 (0, 0))) x]) (fun x w' => x.isSome = true → (((low e 0).1 ++ [Nd.prt (low e 0).2.2]) ++ [Nd.fin]).length ≤ 4096) (fun x => if x.isSome = true then 0 else 1) none ⟨rfl, rfl, rfl, rfl, rfl, rfl, trivial⟩ (st.add (r := .tree [] (fun _ => True)) ⟨trivial, by simp, fun _ _ _ _ _ => trivial⟩ (by simp [Res.at?])) (fun h => by cases h) ?_
 clear st
 intro x w hle st
 refine sr ?_
 refine vy (y_lss rfl rfl) ?_
 refine et (vk7 1 2 6 27 28 29 30 (vc_seq ?_))
 refine vif ?_ ?_
 ·intro hc30
  try simp only [dn] at hc30
  have hx : x = none := by
   match x, hc30 with
   | none, _ => rfl
   | some _, h => simp at h
  subst hx
  simp only [lwU, lwG, lwN] at st
  refine kt (vk6 1 2 6 27 28 29 (vc_seq (vc_block (sr ?_))))
  refine ym ?_
  refine vy ((by exact y_ia (k := 0) rfl rfl underlying79 sizeOf143 rfl (by omega))) ?_
  refine vy ((by exact y_ldca [str [97], .slice oc 0 cc, .slice ob 1 cb, .int .i64 a] rfl isAgg143 sizeOf143 rfl (fun i v hi => st.chg.cell (htc i v hi) (by simp)))) ?_
  refine vc_e (e_al (l := [_, _, _, _]) st rfl rfl zeroValue143 rfl ?_)
  intro b8 w hb8 st
  refine ya ?_
  refine vc_e (e_sts (vs := [_, _, _, _]) st 0 rfl rfl rfl rfl rfl sizeOf143 rfl rfl (by (right; assumption)) ?_)
  intro w st; dsimp only [setNth, wr] at st
  refine et (vk8 1 2 6 7 8 27 28 29 (sr ?_))
  refine vy ((by exact y_lda (vs := [_, _, _]) st 4 rfl isAgg81 sizeOf81 rfl rfl)) ?_
  refine ym ?_
  refine vy (y_fa0 rfl underlying143 rfl rfl sizeOf9 rfl) ?_
  refine vy ((by exact y_ld st 0 rfl isAgg9 rfl rfl)) ?_
  refine vy ((by exact y_faz (k := 1) rfl underlying143 rfl rfl sizeOf37 rfl)) ?_
  refine vy ((by exact y_ld st 0 rfl isAgg37 rfl rfl)) ?_
  refine vy (y_lensl rfl underlying37) ?_
  refine vy ((by exact y_faz (k := 1) rfl underlying143 rfl rfl sizeOf37 rfl)) ?_
  refine vy ((by exact y_ld st 0 rfl isAgg37 rfl rfl)) ?_
  refine vy (y_lensl rfl underlying37) ?_
  refine vy (ybd (.agg #[_, _, _, _]) [(0, _), (1, _), (2, _)]) ?_
  refine vy (ybd (.agg #[_, _, _, _, _, _, _, _, _, _]) [(0, _), (1, _), (2, _)]) ?_
  refine vc_e (e_bx (l := [_, _, _, _, _, _, _, _, _, _]) st rfl rfl rfl rfl ?_)
  intro b46 w hb46 st
  refine ya ?_
  refine et (vk8 1 2 6 8 9 27 28 29 (sr ?_))
  refine ym ?_
  refine vy ((by exact y_faz (k := 2) rfl underlying143 rfl rfl sizeOf141 rfl)) ?_
  refine vy ((by exact y_ld st 1 rfl isAgg141 rfl rfl)) ?_
  have hLo0 : Lo b46 (.slice os 0 cs) (.slice ol 0 cl) (.slice (some ⟨tb, to_, none⟩) 1 ct) [] 0 (.slice none 0 0) none w := ⟨st.res (i := 0) rfl, World.ownsRow_nil _ _ _ _, rfl, by simp [loS, opS, Value.ownBlock]⟩
  replace st := st.turn0 (q := loG [] w0.heap.size b46 (.slice os 0 cs) (.slice ol 0 cl) (.slice (some ⟨tb, to_, none⟩) 1 ct) [] 0 (.slice none 0 0) none) (fun k hk => by simpa [loG, reg, loS, opS, Value.ownBlock, Res.at?] using hk) (reg_holds hLo0.reg (fun k hk => .inr (by simp [loS, opS, Value.ownBlock] at hk; omega)))
  refine vc_e (e_call [_, _] rfl rfl call49 rfl (lblock_any (n0 := n) b46 (.slice os 0 cs) (.slice ol 0 cl) (.slice (some ⟨tb, to_, none⟩) 1 ct) (.slice none 0 0) none e ob cb _ (hp.kept st.chg (by simp)) (fun k hk => by simp [loS, opS, Value.ownBlock] at hk; omega) hLo0) ?_)
  rintro _ w ⟨gv1, q1, pp⟩
  replace st := st.regP (i := 0) rfl pp
  dsimp only [setNth] at st
  refine et (vk7 1 2 6 9 27 28 29 (vc_seq (sr ?_)))
  refine ym ?_
  refine ynk ?_
  refine vy ((by exact y_faz (k := 9) rfl underlying147 rfl rfl sizeOf4 rfl)) ?_
  refine vy ((by exact y_ldc rfl isAgg4 (cell_blk ((st.regGet (i := 0) rfl).1.cell) rfl))) ?_
  refine vy (y_not rfl) ?_
  refine et (vk8 1 2 6 9 27 28 29 55 ?_)
  refine vif ?_ ?_
  ·intro hc55
   try simp only [dn] at hc55
   refine vc_region ?_
   refine ym ?_
   refine vy (ybd (.agg #[_, _, _, _, _, _, _, _, _, _, _, _, _]) [(0, _)]) ?_
   refine vc_e (e_call [_, _] rfl rfl call50 rfl (lput_any b46 (.slice os 0 cs) (.slice ol 0 cl) (.slice (some ⟨tb, to_, none⟩) 1 ct) _ _ gv1 q1 .fin _ (st.regGet (i := 0) rfl).1) ?_)
   rintro _ w ⟨⟨kk, rfl⟩, gv2, q2, pp⟩
   replace st := st.regP (i := 0) rfl pp
   dsimp only [setNth] at st
   refine et (vk7 1 2 6 9 27 28 29 (vc_seq (sr ?_)))
   refine ym ?_
   refine ynk ?_
   refine vy ((by exact y_faz (k := 9) rfl underlying147 rfl rfl sizeOf4 rfl)) ?_
   refine vy ((by exact y_ldc rfl isAgg4 (cell_blk ((st.regGet (i := 0) rfl).1.cell) rfl))) ?_
   refine et (vk8 1 2 6 9 27 28 29 62 ?_)
   refine vif ?_ ?_
   ·intro hc62
    try simp only [dn] at hc62
    refine sr ?_
    refine vy (ybd (.agg #[_, _, _]) []) ?_
    refine vc_e (e_sts (vs := [_, _, _]) st 4 rfl rfl rfl rfl rfl sizeOf40 rfl rfl (by (right; assumption)) ?_)
    intro w st; dsimp only [setNth, wr] at st
    refine ya ?_
    refine et (vk2 2 3 (vc_ret (vq_then_ret (vq_block_ret (vq_then_ret (vq_then_ret (vq_block_ret (vq_then_ret ?_))))))))
    refine vq_ret2 st (.inl rfl) results25 (by exact .cell 4 rfl rfl isAgg40 sizeOf40) (.tmp rfl) ?_
    refine ⟨_, rfl, ?_⟩
    exact ⟨st.chg, .inl ⟨_, rfl, by decide⟩⟩
   intro hc62
   try simp only [dn] at hc62
   refine kt (vk7 1 2 6 9 27 28 29 (vc_seq ?_))
   have hN : (((low e 0).1 ++ [Nd.prt (low e 0).2.2]) ++ [Nd.fin]).length ≤ 4096 := by omega
   have hrl : rl (((low e 0).1 ++ [Nd.prt (low e 0).2.2]) ++ [Nd.fin]) = (((low e 0).1 ++ [Nd.prt (low e 0).2.2]) ++ [Nd.fin]) := List.take_of_length_le hN
   obtain ⟨nb, nc, rfl, -⟩ := own_form (st.regGet (i := 0) rfl).1.row (by rw [hrl]; simp)
   replace st := st.loOpen
   rw [hrl] at st
   have hpos : 0 < (((low e 0).1 ++ [Nd.prt (low e 0).2.2]) ++ [Nd.fin]).length := by simp
   have hlast := linO_last (((low e 0).1 ++ [Nd.prt (low e 0).2.2]) ++ [Nd.fin]) 0 0 0 hpos
   obtain ⟨NN, hNN⟩ : ∃ NN, NN = (((low e 0).1 ++ [Nd.prt (low e 0).2.2]) ++ [Nd.fin]) := ⟨_, rfl⟩
   rw [← hNN] at st hpos hlast hN
   refine vk_draw Tryz.mixed [(0, true), (1, true), (2, true), (3, true), (5, true), (6, true), (7, true), (8, true), (4, true), (9, true), (10, true), (11, true), (12, true), (13, true), (14, false)] 14 (fun w => St _ _ _ w) st (by kernel_rfl) (by repeat (first | exact okQ_noPan | exact okQ_body | exact okQ_bodyS | refine okQ_then ?_ | refine okQ_block ?_)) rfl (by kernel_rfl) rfl ?_
   intro w cd; replace st := st.call0 cd; clear cd
   have hS := st
   refine km hS ?_
   refine vk_takeU rfl rfl rfl rfl (fun _ => hS) (fun w => y_nck rfl) ?_
   refine vk_takeU rfl rfl rfl rfl (fun _ => hS) (fun w => (by exact y_faz (k := 4) rfl underlying147 rfl rfl sizeOf98 rfl)) ?_
   refine vk_takeU rfl rfl rfl rfl (fun _ => hS) (fun w => (by exact y_fa (k := 3) rfl underlying98 rfl rfl sizeOf96 rfl)) ?_
   refine km hS ?_
   refine vk_takeU rfl rfl rfl rfl (fun _ => hS) (fun w => y_nck rfl) ?_
   refine vk_takeU rfl rfl rfl rfl (fun _ => hS) (fun w => (by exact y_faz (k := 4) rfl underlying147 rfl rfl sizeOf98 rfl)) ?_
   refine vk_takeU rfl rfl rfl rfl (fun _ => hS) (fun w => (by exact y_fa (k := 3) rfl underlying98 rfl rfl sizeOf96 rfl)) ?_
   iterate 2 refine vk_take rfl rfl rfl rfl hS (fun w st => (by exact y_ld st 0 rfl isAgg96 rfl rfl)) ?_
   refine vk_takeU rfl rfl rfl rfl (fun _ => hS) (fun w => y_lensl rfl underlying96) ?_
   refine vk_takeU rfl rfl rfl rfl (fun _ => hS) (fun w => y_sub rfl rfl (by omega : _ = ((NN.length - 1 : Nat) : Int)) (by omega) (by omega)) ?_
   refine vk_takeU rfl rfl rfl rfl (fun _ => hS) (fun w => (by exact y_ia0 (k := (NN.length - 1)) rfl rfl underlying96 sizeOf103 rfl (by omega))) ?_
   refine vk_takeU rfl rfl rfl rfl (fun _ => hS) (fun w => (by exact y_fa (k := 10) rfl underlying103 rfl rfl sizeOf3 rfl)) ?_
   refine vk_do rfl rfl (e_stZ (vs := [_]) st 1 rfl rfl rfl rfl rfl sizeOf3 rfl (by rw [linO_len]; simp only [List.length_cons, List.length_nil]; omega) ?_)
   intro w st; dsimp only [setNth] at st
   rw [show ((NN.length - 1) * 13 + 10 + [Value.int .i64 0].length) = (NN.length - 1) * 13 + 11 from rfl] at st
   replace hlast : List.take ((NN.length - 1) * 13 + 10) (linO NN 0 0) ++ [Value.int .i64 0] ++ List.drop ((NN.length - 1) * 13 + 11) (linO NN 0 0) = linO NN 0 0 := hlast
   rw [hlast] at st
   refine vk_late ?_
   refine vk_end ?_
   refine vq_then (vk7 1 2 6 9 27 28 29 ?_)
   replace st := st.ownNil 98 4
   refine vk_draw Tryz.mixed [(0, true), (2, true), (3, true), (4, true), (1, true), (5, true), (6, false), (7, false), (8, true), (9, false)] 9 (fun w => St _ _ [.blk b46 (.cells (loC (.slice os 0 cs) (.slice ol 0 cl) (.slice (some ⟨tb, to_, none⟩) 1 ct) (low e 0).2.1 (.slice (some ⟨nb, 0, none⟩) NN.length nc) (opV q2) (decide (4096 < NN.length))).toArray 147 (0, 0)), .blk b6 (.cells ([.slice o21 0 c21, .slice o24 0 c24, .slice none 0 0] : List Value).toArray 40 (0, 0))] w) (by exact st.drop (by repeat (first | exact sl0 | apply sl1 | apply sl2))) (by kernel_rfl) (by repeat (first | exact okQ_noPan | exact okQ_body | exact okQ_bodyS | refine okQ_then ?_ | refine okQ_block ?_)) rfl (by kernel_rfl) rfl ?_
   intro w cd; replace st := st.call0 cd; clear cd
   have hS : St _ _ [.blk b46 (.cells (loC (.slice os 0 cs) (.slice ol 0 cl) (.slice (some ⟨tb, to_, none⟩) 1 ct) (low e 0).2.1 (.slice (some ⟨nb, 0, none⟩) NN.length nc) (opV q2) (decide (4096 < NN.length))).toArray 147 (0, 0)), .blk b6 (.cells ([.slice o21 0 c21, .slice o24 0 c24, .slice none 0 0] : List Value).toArray 40 (0, 0))] w := (by exact st.drop (by repeat (first | exact sl0 | apply sl1 | apply sl2)))
   refine vk_takeU rfl rfl rfl rfl (fun _ => hS) (fun w => (by exact y_faz (k := 2) rfl underlying40 rfl rfl sizeOf38 rfl)) ?_
   refine km hS ?_
   refine vk_takeU rfl rfl rfl rfl (fun _ => hS) (fun w => y_nck rfl) ?_
   refine vk_takeU rfl rfl rfl rfl (fun _ => hS) (fun w => (by exact y_faz (k := 4) rfl underlying147 rfl rfl sizeOf98 rfl)) ?_
   refine vk_take rfl rfl rfl rfl hS (fun w st => (by exact y_ld st 1 rfl isAgg38 rfl rfl)) ?_
   refine vk_take rfl rfl rfl rfl hS (fun w st => (by exact y_lda (vs := [_, _, _, _]) st 0 rfl isAgg98 sizeOf98 rfl rfl)) ?_
   refine vk_do rfl rfl (e_bs1 (l := [_, _, _, _]) st rfl rfl rfl rfl underlying38 sizeOf98 rfl rfl rfl zeroValue98 ?_)
   intro b84 w hb84 st
   refine vk_next (by exact st.drop (by repeat (first | exact sl0 | apply sl1 | apply sl2))) ?_; intro hS
   refine vk_do rfl rfl (e_app (bytes := 56) st 1 0 rfl rfl rfl rfl rfl rfl underlying38 Tryz.info98 rfl rfl rfl rfl rfl (by simp) rfl rfl (by unfold maxLen; omega) (by omega) ?_)
   intro oa85 cap85 w st; dsimp only [setNth] at st
   refine vk_next (by exact st.drop (by repeat (first | exact sl0 | apply sl1 | apply sl2))) ?_; intro hS
   refine vk_takeU rfl rfl rfl rfl (fun _ => hS) (fun w => (by exact y_faz (k := 2) rfl underlying40 rfl rfl sizeOf38 rfl)) ?_
   refine vk_do rfl rfl (e_st st 6 rfl rfl rfl rfl sizeOf38 rfl rfl (by (right; assumption)) ?_)
   intro w st; dsimp only [setNth, wr] at st
   refine vk_late ?_
   refine vk_end ?_
   refine vq_block (vq_then (vk6 1 2 6 27 28 29 (vc_region ?_)))
   refine vy (y_add rfl rfl (by simp : _ = (1 : Int)) (by omega) (by omega)) ?_
   refine ym ?_
   refine vc_end ?_
   refine vq_again (some (oa85, cap85, nb, nc))  ⟨rfl, rfl, rfl, rfl, rfl, rfl, trivial⟩ (by subst hNN; exact st.pick [1, 6, 7, 3] rfl (by decide)) ?_ ?_
   ·intro _; subst hNN; exact hN
   simp
  intro hc55
  try simp only [dn] at hc55
  refine kt (vk7 1 2 6 9 27 28 29 (vc_seq (sr ?_)))
  refine ym ?_
  refine ynk ?_
  refine vy ((by exact y_faz (k := 9) rfl underlying147 rfl rfl sizeOf4 rfl)) ?_
  refine vy ((by exact y_ldc rfl isAgg4 (cell_blk ((st.regGet (i := 0) rfl).1.cell) rfl))) ?_
  refine et (vk8 1 2 6 9 27 28 29 62 ?_)
  refine vif ?_ ?_
  ·intro hc62
   try simp only [dn] at hc62
   refine sr ?_
   refine vy (ybd (.agg #[_, _, _]) []) ?_
   refine vc_e (e_sts (vs := [_, _, _]) st 4 rfl rfl rfl rfl rfl sizeOf40 rfl rfl (by (right; assumption)) ?_)
   intro w st; dsimp only [setNth, wr] at st
   refine ya ?_
   refine et (vk2 2 3 (vc_ret (vq_then_ret (vq_block_ret (vq_then_ret (vq_then_ret (vq_block_ret (vq_then_ret ?_))))))))
   refine vq_ret2 st (.inl rfl) results25 (by exact .cell 4 rfl rfl isAgg40 sizeOf40) (.tmp rfl) ?_
   refine ⟨_, rfl, ?_⟩
   exact ⟨st.chg, .inl ⟨_, rfl, by decide⟩⟩
  intro hc62
  exfalso; simp only [decide_eq_false_iff_not] at hc62; omega
 intro hc30
 try simp only [dn] at hc30
 obtain ⟨⟨ga, gc, nb, nc⟩, rfl⟩ : ∃ d, x = some d := by
  match x, hc30 with
  | none, h => simp at h
  | some d, _ => exact ⟨d, rfl⟩
 simp only [lwU, lwG, lwN] at st
 refine vc_exit (vq_then_exit (vq_then_exit (vq_block_exit (vq_then (vk2 2 6 (sr ?_))))))
 refine vy ((by exact y_lda (vs := [_, _, _]) st 1 rfl isAgg40 sizeOf40 rfl rfl)) ?_
 refine vc_e (e_sts (vs := [_, _, _]) st 2 rfl rfl rfl rfl rfl sizeOf40 rfl rfl (by (right; assumption)) ?_)
 intro w st; dsimp only [setNth, wr] at st
 refine ya ?_
 refine et (vk2 2 3 (vc_ret ?_))
 refine vq_ret2 st (.inl rfl) results25 (by exact .cell 2 rfl rfl isAgg40 sizeOf40) (.tmp rfl) ?_
 refine ⟨_, rfl, ?_⟩
 obtain ⟨gb, gc2, hg, hgl⟩ := own_form (st.res (i := 0) rfl) (by decide)
 simp only [Value.slice.injEq] at hg
 obtain ⟨rfl, -⟩ := hg
 exact ⟨st.chg, .inr ⟨o21, c21, o24, c24, gb, gc, nb, nc, rfl, hle rfl, hgl, ((st.res (i := 3) rfl).1.2 nb rfl).resolve_left (by simp), fun i c h => own_cell (st.res (i := 0) rfl) h, fun i c h => own_cell (st.res (i := 3) rfl).1.1 h⟩⟩
end Go.Proofs.YtjoepkpdanolkaaGreatDoor


/- The engine: make([]T, n); slices and nil. -/
namespace Sx
open Go Go.RowKit
section
variable {P : Program} {n : Fr} {L : List Oper} {Q : Exit → Act → World → Prop} {kn : Kn} {w w0 : World} {M : List Nat} {hs : List Res} {rest : List Oper}
variable {d ty : Nat} {pos : String} {aft : Array Edge} {g : Option (Nat × Bool)}
variable {N : Act → World → Prop}
theorem y_eqsn {T U E m c : Nat} {x y : Operand} {oa : Option Addr} (hx : evO kn x = some (.slice oa m c)) (hy : evO kn y = some (.slice none 0 0)) (ht : P.underlying T = some (.slice E)) :
    Y P n kn w ⟨some d, .binOp .eql T x y U, ty, pos, aft, g⟩ (.bool oa.isNone) := y_bo hx hy (by
  have h1 : (eqGuard .eql T x y (.slice oa m c) (.slice none 0 0)).run P w = .ok () w := by cases oa <;> rfl
  have h2 : (Op.equalIn (9999 + 1) T (.slice oa m c) (.slice none 0 0)).run P w = .ok oa.isNone w := by
    unfold Op.equalIn
    cases oa <;> simp [Sem.run_bind, run_underlying ht]
  rw [Sem.run_bind, h1, Result.andThen_ok]
  have h3 : binOp .eql T (.slice oa m c) (.slice none 0 0) = (do pure (.bool (← Op.equal T (.slice oa m c) (.slice none 0 0)))) := by cases oa <;> rfl
  rw [h3, Sem.run_bind]
  have h4 : (Op.equal T (.slice oa m c) (.slice none 0 0)).run P w = .ok oa.isNone w := h2
  rw [h4]; rfl)
theorem made1 (z : Value) (c : Nat) (hz : z.cells = #[z]) : (madeCells z.cells (c * 1)).toList = List.replicate c z := by
  rw [hz, Nat.mul_one]
  apply List.ext_getElem?
  intro i
  by_cases h : i < c
  · simp [madeCells, h, List.getElem?_replicate, Nat.mod_one]
  · rw [List.getElem?_eq_none (by simp [madeCells]; omega), List.getElem?_eq_none (by simp; omega)]
/-- make([]T, c) of things of one cell -/
theorem e_mkN (st : St w0 M hs w) {T E c : Nat} {x y : Operand} {kl kc : IntKind} {z : Value} {ti : TypeInfo} (hw : gd L kn g = some true) (hd : okDst n (some d) = true)
    (hx : evO kn x = some (.int kl (c : Int))) (hy : evO kn y = some (.int kc (c : Int)))
    (ht : P.underlying T = some (.slice E)) (hinfo : P.info? E = some ti) (hz : ti.zero = some z) (hsize : ti.size = 1) (hzc : z.cells = #[z]) (hcells : c ≤ 16777216) (hbytes : ti.bytes * c ≤ 281474976710656) (h63 : c ≤ maxLen)
    (next : ∀ b w', w0.heap.size ≤ b → St w0 M (.own (.slice (some ⟨b, 0, none⟩) c c) E 1 c (List.replicate c z) :: hs) w' → vN n N ((d, .slice (some ⟨b, 0, none⟩) c c) :: kn) w') :
    vS P n L Q ⟨some d, .makeSlice T x y, ty, pos, aft, g⟩ N kn w := by
  obtain ⟨w', hr, ho, hg⟩ := run_makeSlice_full (P := P) w w.heap.size T E ti z 1 ht hinfo hz hsize kl kc c (by omega) hbytes h63 (Nat.le_refl _)
  rw [made1 z c hzc] at ho
  refine e_run hw hd (w' := w') (fun a ha => ?_) (next _ w' st.chg.size (st.pushOwn (Chg.of_grownBy_none hg) ho))
  simp only [execOp, ha.ev hx, ha.ev hy, Sem.run_bind, hr]
  rfl
/-- the numbers below 'm' -/
def intsV (m : Nat) : List Value := (List.range m).map fun (i : Nat) => .int .i64 (i : Int)
theorem intsV_succ (m : Nat) : intsV (m + 1) = intsV m ++ [.int .i64 (m : Int)] := by simp [intsV, List.range_succ]
theorem intsV_get {m k : Nat} (h : k < m) : (intsV m)[k]? = some (.int .i64 (k : Int)) := by simp [intsV, h]
/-- a set of the numbers below 'm' -/
def setV (m : Nat) : List (Int × Value) := (List.range m).map fun (i : Nat) => ((i : Int), .bool true)
theorem setV_succ (m : Nat) : setV (m + 1) = setV m ++ [((m : Int), .bool true)] := by simp [setV, List.range_succ]
theorem getI_no : ∀ {kvs : List (Int × Value)} {s : Int}, (∀ p ∈ kvs, p.1 ≠ s) → getI kvs s = none
  | [], _, _ => rfl
  | (k, v) :: r, s, h => by
    have h1 : s ≠ k := fun e => h (k, v) (.head _) e.symm
    rw [getI, if_neg h1]
    exact getI_no fun p hp => h p (.tail _ hp)
theorem setV_no (m : Nat) : getI (setV m) (m : Int) = none := getI_no fun p hp => by
  simp only [setV, List.mem_map, List.mem_range] at hp
  obtain ⟨i, hi, rfl⟩ := hp
  simp only; omega
theorem repl_set {α : Type} (z : α) (n i : Nat) (h : i < n) : (List.replicate n z).take i ++ [z] ++ (List.replicate n z).drop (i + 1) = List.replicate n z := by
  rw [List.take_replicate, List.drop_replicate, Nat.min_eq_left (by omega)]
  rw [show [z] = List.replicate 1 z from rfl, List.replicate_append_replicate, List.replicate_append_replicate]
  congr 1; omega
end
end Sx


namespace Go.Proofs.YtjoepkpdanolkaaGreatDoor
open Go.RowKit Sx LexS ParS _root_.Go.Proofs.Tryz

theorem clone0_any (w : World) : Ret Tryz.prog 109 [.slice none 0 0] w fun v w' => v = .slice none 0 0 ∧ w' = w := by
 refine ret_of [_] func109 rfl ntmps109 rfl ?_
 have st := St.init w []
 refine sr ?_
 refine ya ?_
 refine et (vk1 0 (vc_seq (sr ?_)))
 refine ym ?_
 refine vy (y_eqsn rfl rfl underlying88) ?_
 refine et (vk2 0 4 ?_)
 refine vif ?_ ?_
 ·intro hc4
  try simp only [decide_eq_true_eq, decide_eq_false_iff_not, Bool.not_eq_true', Bool.not_eq_false', Bool.not_eq_true, Bool.not_eq_false, Int.not_lt, Int.not_le, Nat.not_lt, Nat.not_le, Bool.not_true, Bool.not_false, Bool.true_eq_false, Bool.false_eq_true] at hc4
  refine sr ?_
  refine ya ?_
  refine et (vk1 2 (vc_ret (vq_then_ret ?_)))
  refine vr1 st results109 ?_
  exact ⟨rfl, rfl⟩
 intro hc4
 exfalso; revert hc4; decide
theorem cloneD_any (o : Option Addr) (c : Nat) (w : World) : Ret Tryz.prog 27 [.slice o 0 c] w fun v w' => (∃ o' c', v = .slice o' 0 c') ∧ Chg [] w w' := by
 refine ret_of [_] func27 rfl ntmps27 rfl ?_
 have st := St.init w []
 obtain ⟨w0, rfl⟩ : ∃ w0, w0 = w := ⟨_, rfl⟩
 refine sr ?_
 refine ya ?_
 refine et (vk1 0 (vc_seq (sr ?_)))
 refine ym ?_
 refine vy (y_eqsn rfl rfl underlying37) ?_
 refine et (vk2 0 4 ?_)
 refine vif ?_ ?_
 intro hc4
 try simp only [decide_eq_true_eq, decide_eq_false_iff_not, Bool.not_eq_true', Bool.not_eq_false', Bool.not_eq_true, Bool.not_eq_false, Int.not_lt, Int.not_le, Nat.not_lt, Nat.not_le, Bool.not_true, Bool.not_false, Bool.true_eq_false, Bool.false_eq_true] at hc4
 refine sr ?_
 refine ya ?_
 refine et (vk1 2 (vc_ret (vq_then_ret ?_)))
 rotate_left
 intro hc4
 try simp only [decide_eq_true_eq, decide_eq_false_iff_not, Bool.not_eq_true', Bool.not_eq_false', Bool.not_eq_true, Bool.not_eq_false, Int.not_lt, Int.not_le, Nat.not_lt, Nat.not_le, Bool.not_true, Bool.not_false, Bool.true_eq_false, Bool.false_eq_true] at hc4
 refine kt (vk1 0 (sr ?_))
 refine vc_e (e_bs0 st rfl rfl underlying37 sizeOf95 ?_)
 intro b5 w hb5 st
 refine ym ?_
 refine vc_e (e_appr (bytes := 32) (len' := 0) (ys := []) st 0 rfl rfl rfl rfl rfl (.inl rfl) underlying37 Tryz.info95 rfl rfl rfl rfl rfl rfl (by simp) (by decide) (by decide) rfl rfl ?_)
 intro o7 c7 w st; dsimp only [setNth] at st
 refine ya ?_
 refine et (vk1 2 (vc_ret ?_))
 all_goals
  refine vr1 st results27 ?_
  exact ⟨⟨_, _, rfl⟩, st.chg⟩
theorem cloneN_any (nb nc : Nat) (N : List Nd) (hp : 0 < N.length) (hle : N.length ≤ 4096) (w : World) (hc : ∀ (i : Nat) c, (linO N 0 0)[i]? = some c → w.cell? ⟨nb, i, none⟩ = some c) : Ret Tryz.prog 28 [.slice (some ⟨nb, 0, none⟩) N.length nc] w fun v w' => (∃ b c', v = .slice (some ⟨b, 0, none⟩) N.length c' ∧ w'.ownsRow w.heap.size 103 13 (.slice (some ⟨b, 0, none⟩) N.length c') N.length (linO N 0 0)) ∧ Chg [] w w' := by
 refine ret_of [_] func28 rfl ntmps28 rfl ?_
 have st := St.init w []
 obtain ⟨w0, rfl⟩ : ∃ w0, w0 = w := ⟨_, rfl⟩
 refine sr ?_
 refine ya ?_
 refine et (vk1 0 (vc_seq (sr ?_)))
 refine ym ?_
 refine vy (y_eqsn rfl rfl underlying96) ?_
 refine et (vk2 0 4 ?_)
 refine vif ?_ ?_
 ·intro hc4
  exact absurd hc4 (by simp)
 intro hc4
 try simp only [decide_eq_true_eq, decide_eq_false_iff_not, Bool.not_eq_true', Bool.not_eq_false', Bool.not_eq_true, Bool.not_eq_false, Int.not_lt, Int.not_le, Nat.not_lt, Nat.not_le, Bool.not_true, Bool.not_false, Bool.true_eq_false, Bool.false_eq_true] at hc4
 refine kt (vk1 0 (sr ?_))
 refine vc_e (e_bs0 st rfl rfl underlying96 sizeOf103 ?_)
 intro b5 w hb5 st
 refine ym ?_
 refine vc_e (e_appr (bytes := 96) (l := linO N 0 0) (len' := N.length) (ys := linO N 0 0) st 0 rfl rfl rfl rfl rfl (.inr ⟨⟨nb, 0, none⟩, rfl, fun k u hk => by rw [addr_add, Nat.zero_add]; exact st.chg.cell (hc k u hk) (by simp)⟩) underlying96 Tryz.info103 rfl rfl rfl rfl rfl (linO_len N 0 0) (linO_one N 0 0) (by unfold maxLen; omega) (by omega) (by omega) (by simp) ?_)
 intro o7 c7 w st; dsimp only [setNth] at st
 refine ya ?_
 refine et (vk1 2 (vc_ret ?_))
 refine vr1 st results28 ?_
 obtain ⟨b, c2, hg, -⟩ := own_form (st.res (i := 0) rfl) hp
 simp only [Value.slice.injEq] at hg
 obtain ⟨rfl, -⟩ := hg
 exact ⟨⟨b, c7, rfl, st.res (i := 0) rfl⟩, st.chg⟩
abbrev tblP : List Value := [.int .u8 0, .int .u8 43, .int .u8 38, .int .u8 44, .int .u8 46, .int .u8 36, .int .u8 36, .int .u8 40, .int .u8 104, .int .u8 0]
theorem tbl_at (x : Nd) : nth tblP (kx x * 1) = some (.int .u8 (tbN x)) := by cases x <;> rfl
theorem tbl_at0 (x : Nd) : nth tblP (0 + kx x * 1) = some (.int .u8 (tbN x)) := by cases x <;> rfl

theorem parts_any (x : Nd) (nx og : Nat) (w : World) : Ret Tryz.prog 106 [.agg (ndC x nx og).toArray] w fun v w' => v = .int .u8 (pN x) ∧ Chg [] w w' := by
 refine ret_of [_] func106 rfl ntmps106 rfl ?_
 have st := St.init w []
 refine sr ?_
 refine vc_e (e_bx (l := [_, _, _, _, _, _, _, _, _, _, _, _, _]) st rfl rfl rfl rfl ?_)
 intro b1 w hb1 st
 refine ya ?_
 refine et (vk1 1 (sr ?_))
 refine vy (ybd (.agg #[_, _, _, _, _, _, _, _, _, _]) [(1, _), (2, _), (3, _), (4, _), (5, _), (6, _), (7, _), (8, _), (9, _)]) ?_
 refine vc_e (e_al (l := [_, _, _, _, _, _, _, _, _, _]) st rfl rfl zeroValue206 rfl ?_)
 intro b3 w hb3 st
 first
 | refine vc_e (ests st 0 [_, _, _, _, _, _, _, _, _, _] sizeOf206 ?_)
 | refine vc_e (ests st 1 [_, _, _, _, _, _, _, _, _, _] sizeOf206 ?_)
 | refine vc_e (ests st 2 [_, _, _, _, _, _, _, _, _, _] sizeOf206 ?_)
 intro w st; dsimp only [setNth, wr] at st
 refine et (vk2 1 3 (sr ?_))
 refine vy (y_fa0 rfl underlying103 rfl rfl sizeOf47 rfl) ?_
 refine vy ((by first | exact y_ld st 0 rfl isAgg47 rfl rfl | exact y_ld st 1 rfl isAgg47 rfl rfl | exact y_ld st 2 rfl isAgg47 rfl rfl)) ?_
 refine vy (y_iaa (k := (kx x)) rfl rfl underlying206 sizeOf174 (nK_kx x) (kx_lt x)) ?_
 refine vy ((by first | exact y_ld st 0 rfl isAgg174 rfl (by first | exact tbl_at x | exact tbl_at0 x) | exact y_ld st 0 rfl isAgg174 rfl rfl | exact y_ld st 1 rfl isAgg174 rfl rfl | exact y_ld st 2 rfl isAgg174 rfl rfl)) ?_
 refine ya ?_
 refine et (vk2 1 4 (vc_seq (sr ?_)))
 refine vy (y_fa0 rfl underlying103 rfl rfl sizeOf47 rfl) ?_
 refine vy ((by first | exact y_ld st 0 rfl isAgg47 rfl rfl | exact y_ld st 1 rfl isAgg47 rfl rfl | exact y_ld st 2 rfl isAgg47 rfl rfl)) ?_
 refine vy (y_eqi rfl rfl) ?_
 refine vmb ?_ ?_
 focus
  intro hg13
  try simp only [decide_eq_true_eq, decide_eq_false_iff_not, Bool.not_eq_true', Bool.not_eq_false', Bool.not_eq_true, Bool.not_eq_false, Int.not_lt, Int.not_le, Nat.not_lt, Nat.not_le, Bool.not_true, Bool.not_false, Bool.true_eq_false, Bool.false_eq_true] at hg13
  refine vy ((by first | exact y_faz (k := 1) rfl underlying103 rfl rfl sizeOf24 rfl | exact y_fa (k := 1) rfl underlying103 rfl rfl sizeOf24 rfl)) ?_
  refine vy ((by first | exact y_ld st 0 rfl isAgg24 rfl rfl | exact y_ld st 1 rfl isAgg24 rfl rfl | exact y_ld st 2 rfl isAgg24 rfl rfl)) ?_
  refine vc_e (e_call [_] rfl rfl call32 rfl (two_any _ _) ?_)
  rintro _ _ ⟨rfl, rfl⟩
  refine ypt ?_
  refine et (vk2 4 17 ?_)
  refine vif ?_ ?_
  intro hc17
  try simp only [decide_eq_true_eq, decide_eq_false_iff_not, Bool.not_eq_true', Bool.not_eq_false', Bool.not_eq_true, Bool.not_eq_false, Int.not_lt, Int.not_le, Nat.not_lt, Nat.not_le, Bool.not_true, Bool.not_false, Bool.true_eq_false, Bool.false_eq_true] at hc17
  refine vc_region ?_
  refine ym ?_
  refine vy (y_or rfl rfl rfl) ?_
  refine ya ?_
  refine vc_end ?_
  rotate_left
  intro hc17
  try simp only [decide_eq_true_eq, decide_eq_false_iff_not, Bool.not_eq_true', Bool.not_eq_false', Bool.not_eq_true, Bool.not_eq_false, Int.not_lt, Int.not_le, Nat.not_lt, Nat.not_le, Bool.not_true, Bool.not_false, Bool.true_eq_false, Bool.false_eq_true] at hc17
  refine vc_code_skip ?_
 rotate_left 2
 intro hg13
 try simp only [decide_eq_true_eq, decide_eq_false_iff_not, Bool.not_eq_true', Bool.not_eq_false', Bool.not_eq_true, Bool.not_eq_false, Int.not_lt, Int.not_le, Nat.not_lt, Nat.not_le, Bool.not_true, Bool.not_false, Bool.true_eq_false, Bool.false_eq_true] at hg13
 iterate 3 refine vsk ?_
 refine ypf ?_
 refine et (vk2 4 17 ?_)
 refine vc_iff rfl ?_
 refine vc_code_skip ?_
 all_goals
  refine vq_then (vk1 4 (sr ?_))
  refine ym ?_
  refine ya ?_
  refine et (vk1 2 (vc_ret ?_))
  refine vr1 st results106 ?_
  refine ⟨?_, st.chg⟩
  cases x with
  | set op t a b => first | (simp only [nO] at *; simp_all [pN, tbN]; done) | (simp only [nO, nK] at *; simp_all [pN, tbN]; try decide)
  | prt a => first | rfl | (exfalso; simp_all [nK]; done)
  | fin => first | rfl | (exfalso; simp_all [nK]; done)
theorem within_any (p has k most : Int) (pb E : Nat) (fz : Nat × Nat) (w : World) (hp : w.heap[pb]? = some (.cells [.int .u8 p].toArray E fz)) : Ret Tryz.prog 107 [.int .i64 k, .int .u8 has, .int .i64 most, .pointer (some ⟨pb, 0, none⟩)] w fun v w' => v = .bool (wiB p has k most) ∧ w' = w := by
 refine ret_of [_, _, _, _] func107 rfl ntmps107 rfl ?_
 have st := St.init w []
 replace st := St.of1 [] hp
 refine sr ?_
 refine ya ?_
 refine et (vk4 0 1 2 3 (sr ?_))
 refine yl st 0 isAgg174 ?_
 refine ym ?_
 refine vy (y_and (r := u8And p has) rfl rfl rfl) ?_
 refine vy (y_eqi rfl rfl) ?_
 refine vmb ?_ ?_
 focus
  intro hg12
  try simp only [decide_eq_true_eq, decide_eq_false_iff_not, Bool.not_eq_true', Bool.not_eq_false', Bool.not_eq_true, Bool.not_eq_false, Int.not_lt, Int.not_le, Nat.not_lt, Nat.not_le, Bool.not_true, Bool.not_false, Bool.true_eq_false, Bool.false_eq_true] at hg12
  refine ym ?_
  refine vy (y_eqi rfl rfl) ?_
  refine ypt ?_
  refine vmb ?_ ?_
  intro hg16
  try simp only [decide_eq_true_eq, decide_eq_false_iff_not, Bool.not_eq_true', Bool.not_eq_false', Bool.not_eq_true, Bool.not_eq_false, Int.not_lt, Int.not_le, Nat.not_lt, Nat.not_le, Bool.not_true, Bool.not_false, Bool.true_eq_false, Bool.false_eq_true] at hg16
  iterate 13 refine vsk ?_
  refine ypt ?_
  rotate_left
  focus
   intro hg16
   try simp only [decide_eq_true_eq, decide_eq_false_iff_not, Bool.not_eq_true', Bool.not_eq_false', Bool.not_eq_true, Bool.not_eq_false, Int.not_lt, Int.not_le, Nat.not_lt, Nat.not_le, Bool.not_true, Bool.not_false, Bool.true_eq_false, Bool.false_eq_true] at hg16
   refine yl st 0 isAgg174 ?_
   refine ym ?_
   refine vy (y_and (r := u8And p has) rfl rfl rfl) ?_
   refine vy (y_nei rfl rfl) ?_
   refine vmb ?_ ?_
   focus
    intro hg21
    try simp only [decide_eq_true_eq, decide_eq_false_iff_not, Bool.not_eq_true', Bool.not_eq_false', Bool.not_eq_true, Bool.not_eq_false, Int.not_lt, Int.not_le, Nat.not_lt, Nat.not_le, Bool.not_true, Bool.not_false, Bool.true_eq_false, Bool.false_eq_true] at hg21
    refine ym ?_
    refine vy (y_geq rfl rfl) ?_
    refine ypt ?_
    refine vmb ?_ ?_
    intro hg25
    try simp only [decide_eq_true_eq, decide_eq_false_iff_not, Bool.not_eq_true', Bool.not_eq_false', Bool.not_eq_true, Bool.not_eq_false, Int.not_lt, Int.not_le, Nat.not_lt, Nat.not_le, Bool.not_true, Bool.not_false, Bool.true_eq_false, Bool.false_eq_true] at hg25
    iterate 2 refine ym ?_
    refine vy (y_lss rfl rfl) ?_
    refine ypt ?_
    rotate_left
    intro hg25
    try simp only [decide_eq_true_eq, decide_eq_false_iff_not, Bool.not_eq_true', Bool.not_eq_false', Bool.not_eq_true, Bool.not_eq_false, Int.not_lt, Int.not_le, Nat.not_lt, Nat.not_le, Bool.not_true, Bool.not_false, Bool.true_eq_false, Bool.false_eq_true] at hg25
    iterate 3 refine vsk ?_
    refine ypf ?_
   rotate_left 2
   intro hg21
   try simp only [decide_eq_true_eq, decide_eq_false_iff_not, Bool.not_eq_true', Bool.not_eq_false', Bool.not_eq_true, Bool.not_eq_false, Int.not_lt, Int.not_le, Nat.not_lt, Nat.not_le, Bool.not_true, Bool.not_false, Bool.true_eq_false, Bool.false_eq_true] at hg21
   iterate 2 refine vsk ?_
   refine ypf ?_
   refine ym ?_
   iterate 3 refine vsk ?_
   refine ypf ?_
   all_goals
    refine ypf ?_
 rotate_left 4
 focus
  intro hg12
  try simp only [decide_eq_true_eq, decide_eq_false_iff_not, Bool.not_eq_true', Bool.not_eq_false', Bool.not_eq_true, Bool.not_eq_false, Int.not_lt, Int.not_le, Nat.not_lt, Nat.not_le, Bool.not_true, Bool.not_false, Bool.true_eq_false, Bool.false_eq_true] at hg12
  iterate 2 refine vsk ?_
  refine ypf ?_
  refine ym ?_
  refine yl st 0 isAgg174 ?_
  refine ym ?_
  refine vy (y_and (r := u8And p has) rfl rfl rfl) ?_
  refine vy (y_nei rfl rfl) ?_
  refine vmb ?_ ?_
  focus
   intro hg21
   try simp only [decide_eq_true_eq, decide_eq_false_iff_not, Bool.not_eq_true', Bool.not_eq_false', Bool.not_eq_true, Bool.not_eq_false, Int.not_lt, Int.not_le, Nat.not_lt, Nat.not_le, Bool.not_true, Bool.not_false, Bool.true_eq_false, Bool.false_eq_true] at hg21
   refine ym ?_
   refine vy (y_geq rfl rfl) ?_
   refine ypt ?_
   refine vmb ?_ ?_
   intro hg25
   try simp only [decide_eq_true_eq, decide_eq_false_iff_not, Bool.not_eq_true', Bool.not_eq_false', Bool.not_eq_true, Bool.not_eq_false, Int.not_lt, Int.not_le, Nat.not_lt, Nat.not_le, Bool.not_true, Bool.not_false, Bool.true_eq_false, Bool.false_eq_true] at hg25
   iterate 2 refine ym ?_
   refine vy (y_lss rfl rfl) ?_
   refine ypt ?_
   rotate_left
   intro hg25
   try simp only [decide_eq_true_eq, decide_eq_false_iff_not, Bool.not_eq_true', Bool.not_eq_false', Bool.not_eq_true, Bool.not_eq_false, Int.not_lt, Int.not_le, Nat.not_lt, Nat.not_le, Bool.not_true, Bool.not_false, Bool.true_eq_false, Bool.false_eq_true] at hg25
   iterate 3 refine vsk ?_
   refine ypf ?_
  rotate_left 2
  intro hg21
  try simp only [decide_eq_true_eq, decide_eq_false_iff_not, Bool.not_eq_true', Bool.not_eq_false', Bool.not_eq_true, Bool.not_eq_false, Int.not_lt, Int.not_le, Nat.not_lt, Nat.not_le, Bool.not_true, Bool.not_false, Bool.true_eq_false, Bool.false_eq_true] at hg21
  iterate 2 refine vsk ?_
  refine ypf ?_
  refine ym ?_
  iterate 3 refine vsk ?_
  refine ypf ?_
  all_goals
   refine ypf ?_
 all_goals
  refine ya ?_
  refine et (vk1 7 (vc_ret ?_))
  refine vr1 st results107 ?_
  refine ⟨?_, rfl⟩
  show Value.bool _ = Value.bool _
  congr 1
  unfold wiB
  symm
  simp_all <;> omega
theorem fieldsV : (Tryz.prog.fieldsOf 101).toList.map (fun f => (f.name, f.type, f.offset)) = [("IsSlot", 4, 0), ("Slot", 3, 1), ("Word", 2, 2)] := by kernel_rfl
theorem eqFieldsV (w : World) : (Op.eqFields 9999 [.bool false, .int .i64 0, .int .i64 0].toArray [.bool false, .int .i64 0, .int .i64 0].toArray (Tryz.prog.fieldsOf 101).toList).run Tryz.prog w = .ok true w := by
 have h := fieldsV
 match hf : (Tryz.prog.fieldsOf 101).toList with
 | [a, b, c] =>
  rw [hf] at h
  simp only [List.map_cons, List.map_nil, List.cons.injEq, Prod.mk.injEq, and_true] at h
  obtain ⟨⟨a1, a2, a3⟩, ⟨b1, b2, b3⟩, c1, c2, c3⟩ := h
  have e1 : ∀ w, (part 4 [.bool false, .int .i64 0, .int .i64 0].toArray 0).run Tryz.prog w = .ok (.bool false) w := fun w => run_part1 isAgg4 rfl
  have e2 : ∀ w, (part 3 [.bool false, .int .i64 0, .int .i64 0].toArray 1).run Tryz.prog w = .ok (.int .i64 0) w := fun w => run_part1 isAgg3 rfl
  have e3 : ∀ w, (part 2 [.bool false, .int .i64 0, .int .i64 0].toArray 2).run Tryz.prog w = .ok (.int .i64 0) w := fun w => run_part1 isAgg2 rfl
  have r1 := run_equalIn_bool (P := Tryz.prog) w 9998 4 false false underlying4
  have r2 := run_equalIn_int (P := Tryz.prog) w 9998 3 .i64 .i64 0 0 underlying3
  have r3 := run_equalIn_int (P := Tryz.prog) w 9998 2 .i64 .i64 0 0 underlying2
  simp only [Op.eqFields, a1, a2, a3, b1, b2, b3, c1, c2, c3, Sem.run_bind, Sem.run_ite, e1, e2, e3, Result.andThen_ok]
  simp only [ne_eq, String.reduceEq, not_false_eq_true, if_true, Sem.run_bind, Sem.run_ite, e1, e2, e3, r1, r2, r3, Result.andThen_ok, Sem.run_pure]
  simp
 | [] => rw [hf] at h; simp at h
 | [_] => rw [hf] at h; simp at h
 | [_, _] => rw [hf] at h; simp at h
 | _ :: _ :: _ :: _ :: _ => rw [hf] at h; simp at h
section
variable {n : Fr} {kn : Kn} {w : World} {d ty : Nat} {pos : String} {aft : Array Edge} {g : Option (Nat × Bool)}
theorem y_eqV0 {U : Nat} {x y : Operand} (hx : evO kn x = some (.agg [.bool false, .int .i64 0, .int .i64 0].toArray)) (hy : evO kn y = some (.agg [.bool false, .int .i64 0, .int .i64 0].toArray)) : Y Tryz.prog n kn w ⟨some d, .binOp .eql 101 x y U, ty, pos, aft, g⟩ (.bool true) :=
 y_bo hx hy (by
   have h1 := run_eqGuard_agg (P := Tryz.prog) w .eql 101 x y [.bool false, .int .i64 0, .int .i64 0].toArray [.bool false, .int .i64 0, .int .i64 0].toArray (by kernel_rfl)
   have h2 := run_eql_struct (P := Tryz.prog) w 101 [.bool false, .int .i64 0, .int .i64 0].toArray [.bool false, .int .i64 0, .int .i64 0].toArray
   rw [run_equalIn_agg w 9999 101 _ _ (by kernel_rfl) (by kernel_rfl), eqFieldsV] at h2
   simp only [Sem.run_bind, h1, Result.andThen_ok]
   have h3 : (binOp .eql 101 (.agg [.bool false, .int .i64 0, .int .i64 0].toArray) (.agg [.bool false, .int .i64 0, .int .i64 0].toArray)).run Tryz.prog w = .ok (.bool true) w := by rw [h2]; rfl
   exact h3)
end

theorem vok_any (p has : Int) (v : Vl) (s pb gb E E2 : Nat) (nv : Value) (fz fz2 : Nat × Nat) (w : World) (hp : w.heap[pb]? = some (.cells [.int .u8 p].toArray E fz)) (hg : w.heap[gb]? = some (.cells [str [97], .int .i64 0, .int .i64 (s : Int), nv].toArray E2 fz2)) (hne : pb ≠ gb) (hv : (u8And p has = 0 → v = .num 0) ∧ (u8And p has ≠ 0 → inV s v)) :
    Ret Tryz.prog 108 [.agg (vlC v).toArray, .int .u8 has, .pointer (some ⟨pb, 0, none⟩), .pointer (some ⟨gb, 0, none⟩)] w fun r w' => r = .bool true ∧ Chg [] w w' := by
 refine ret_of [_, _, _, _] func108 rfl ntmps108 rfl ?_
 have st := St.init w []
 replace st := St.of2 [] hp hg hne
 refine sr ?_
 refine vc_e (e_bx (l := [_, _, _]) st rfl rfl rfl rfl ?_)
 intro b4 w hb4 st
 refine ya ?_
 refine et (vk4 1 2 3 4 (vc_seq (vc_block (sr ?_))))
 refine vy ((by first | exact y_ld st 0 rfl isAgg174 rfl rfl | exact y_ld st 1 rfl isAgg174 rfl rfl | exact y_ld st 2 rfl isAgg174 rfl rfl | exact y_ld st 3 rfl isAgg174 rfl rfl)) ?_
 refine ym ?_
 refine vy (y_and (r := u8And p has) rfl rfl rfl) ?_
 refine vy (y_eqi rfl rfl) ?_
 refine ya ?_
 refine et (vk3 3 4 7 ?_)
 refine vif ?_ ?_
 ·intro hc7
  try simp only [decide_eq_true_eq, decide_eq_false_iff_not, Bool.not_eq_true', Bool.not_eq_false', Bool.not_eq_true, Bool.not_eq_false, Int.not_lt, Int.not_le, Nat.not_lt, Nat.not_le, Bool.not_true, Bool.not_false, Bool.true_eq_false, Bool.false_eq_true] at hc7
  obtain rfl := hv.1 hc7
  refine sr ?_
  refine vy ((by first | exact y_lda (vs := [_, _, _]) st 0 rfl isAgg101 sizeOf101 rfl rfl | exact y_lda (vs := [_, _, _]) st 1 rfl isAgg101 sizeOf101 rfl rfl | exact y_lda (vs := [_, _, _]) st 2 rfl isAgg101 sizeOf101 rfl rfl | exact y_lda (vs := [_, _, _]) st 3 rfl isAgg101 sizeOf101 rfl rfl)) ?_
  refine vy (ybd (.agg #[_, _, _]) []) ?_
  refine vy (y_eqV0 rfl rfl) ?_
  refine ya ?_
  refine et (vk1 6 (vc_ret (vq_block_ret (vq_then_ret ?_))))
  refine vr1 st results108 ?_
  exact ⟨rfl, st.chg⟩
 intro hc7
 try simp only [decide_eq_true_eq, decide_eq_false_iff_not, Bool.not_eq_true', Bool.not_eq_false', Bool.not_eq_true, Bool.not_eq_false, Int.not_lt, Int.not_le, Nat.not_lt, Nat.not_le, Bool.not_true, Bool.not_false, Bool.true_eq_false, Bool.false_eq_true] at hc7
 have hin := hv.2 hc7
 refine sr ?_
 refine vy (y_fa0 rfl underlying101 rfl rfl sizeOf4 rfl) ?_
 refine vy ((by first | exact y_ld st 0 rfl isAgg4 rfl rfl | exact y_ld st 1 rfl isAgg4 rfl rfl | exact y_ld st 2 rfl isAgg4 rfl rfl | exact y_ld st 3 rfl isAgg4 rfl rfl)) ?_
 refine ya ?_
 refine et (vk3 3 4 15 ?_)
 refine vif ?_ ?_
 focus
  intro hc15
  try simp only [decide_eq_true_eq, decide_eq_false_iff_not, Bool.not_eq_true', Bool.not_eq_false', Bool.not_eq_true, Bool.not_eq_false, Int.not_lt, Int.not_le, Nat.not_lt, Nat.not_le, Bool.not_true, Bool.not_false, Bool.true_eq_false, Bool.false_eq_true] at hc15
  obtain ⟨k, rfl⟩ : ∃ k, v = .slot k := by
   cases v with
   | num w => exact absurd hc15 (by simp [vB])
   | slot k => exact ⟨k, rfl⟩
  simp only [inV] at hin
  refine sr ?_
  refine vy ((by first | exact y_faz (k := 1) rfl underlying101 rfl rfl sizeOf3 rfl | exact y_fa (k := 1) rfl underlying101 rfl rfl sizeOf3 rfl)) ?_
  refine vy ((by first | exact y_ld st 0 rfl isAgg3 rfl rfl | exact y_ld st 1 rfl isAgg3 rfl rfl | exact y_ld st 2 rfl isAgg3 rfl rfl | exact y_ld st 3 rfl isAgg3 rfl rfl)) ?_
  refine vy (y_geq rfl rfl) ?_
  refine vmb ?_ ?_
  focus
   intro hg21
   try simp only [decide_eq_true_eq, decide_eq_false_iff_not, Bool.not_eq_true', Bool.not_eq_false', Bool.not_eq_true, Bool.not_eq_false, Int.not_lt, Int.not_le, Nat.not_lt, Nat.not_le, Bool.not_true, Bool.not_false, Bool.true_eq_false, Bool.false_eq_true] at hg21
   refine vy ((by first | exact y_faz (k := 1) rfl underlying101 rfl rfl sizeOf3 rfl | exact y_fa (k := 1) rfl underlying101 rfl rfl sizeOf3 rfl)) ?_
   refine vy ((by first | exact y_ld st 0 rfl isAgg3 rfl rfl | exact y_ld st 1 rfl isAgg3 rfl rfl | exact y_ld st 2 rfl isAgg3 rfl rfl | exact y_ld st 3 rfl isAgg3 rfl rfl)) ?_
   refine vy ((by first | exact y_faz (k := 2) rfl underlying98 rfl rfl sizeOf3 rfl | exact y_fa (k := 2) rfl underlying98 rfl rfl sizeOf3 rfl)) ?_
   refine vy ((by first | exact y_ld st 0 rfl isAgg3 rfl rfl | exact y_ld st 1 rfl isAgg3 rfl rfl | exact y_ld st 2 rfl isAgg3 rfl rfl | exact y_ld st 3 rfl isAgg3 rfl rfl)) ?_
   refine vy (y_lss rfl rfl) ?_
   refine ypt ?_
   refine vmb ?_ ?_
   intro hg28
   try simp only [decide_eq_true_eq, decide_eq_false_iff_not, Bool.not_eq_true', Bool.not_eq_false', Bool.not_eq_true, Bool.not_eq_false, Int.not_lt, Int.not_le, Nat.not_lt, Nat.not_le, Bool.not_true, Bool.not_false, Bool.true_eq_false, Bool.false_eq_true] at hg28
   refine vy ((by first | exact y_faz (k := 2) rfl underlying101 rfl rfl sizeOf2 rfl | exact y_fa (k := 2) rfl underlying101 rfl rfl sizeOf2 rfl)) ?_
   refine vy ((by first | exact y_ld st 0 rfl isAgg2 rfl rfl | exact y_ld st 1 rfl isAgg2 rfl rfl | exact y_ld st 2 rfl isAgg2 rfl rfl | exact y_ld st 3 rfl isAgg2 rfl rfl)) ?_
   refine vy (y_eqi rfl rfl) ?_
   refine ypt ?_
   rotate_left
   intro hg28
   try simp only [decide_eq_true_eq, decide_eq_false_iff_not, Bool.not_eq_true', Bool.not_eq_false', Bool.not_eq_true, Bool.not_eq_false, Int.not_lt, Int.not_le, Nat.not_lt, Nat.not_le, Bool.not_true, Bool.not_false, Bool.true_eq_false, Bool.false_eq_true] at hg28
   iterate 3 refine vsk ?_
   refine ypf ?_
  rotate_left 2
  intro hg21
  try simp only [decide_eq_true_eq, decide_eq_false_iff_not, Bool.not_eq_true', Bool.not_eq_false', Bool.not_eq_true, Bool.not_eq_false, Int.not_lt, Int.not_le, Nat.not_lt, Nat.not_le, Bool.not_true, Bool.not_false, Bool.true_eq_false, Bool.false_eq_true] at hg21
  iterate 5 refine vsk ?_
  refine ypf ?_
  refine ym ?_
  iterate 3 refine vsk ?_
  refine ypf ?_
  all_goals
   refine ya ?_
   refine et (vk1 6 (vc_ret (vq_block_ret (vq_then_ret ?_))))
 rotate_left 3
 intro hc15
 try simp only [decide_eq_true_eq, decide_eq_false_iff_not, Bool.not_eq_true', Bool.not_eq_false', Bool.not_eq_true, Bool.not_eq_false, Int.not_lt, Int.not_le, Nat.not_lt, Nat.not_le, Bool.not_true, Bool.not_false, Bool.true_eq_false, Bool.false_eq_true] at hc15
 obtain ⟨k, rfl⟩ : ∃ k, v = .num k := by
  cases v with
  | num w => exact ⟨w, rfl⟩
  | slot k => exact absurd hc15 (by simp [vB])
 refine vc_code_skip (vq_block (vq_then (vk1 4 (sr ?_))))
 refine vy ((by first | exact y_faz (k := 1) rfl underlying101 rfl rfl sizeOf3 rfl | exact y_fa (k := 1) rfl underlying101 rfl rfl sizeOf3 rfl)) ?_
 refine vy ((by first | exact y_ld st 0 rfl isAgg3 rfl rfl | exact y_ld st 1 rfl isAgg3 rfl rfl | exact y_ld st 2 rfl isAgg3 rfl rfl | exact y_ld st 3 rfl isAgg3 rfl rfl)) ?_
 refine vy (y_eqi rfl rfl) ?_
 refine ya ?_
 refine et (vk1 6 (vc_ret ?_))
 all_goals
  refine vr1 st results108 ?_
  refine ⟨?_, st.chg⟩
  first | rfl | (simp_all [ParS.vS, vW]; done) | (exfalso; simp_all [ParS.vS, vW]; done) | (exfalso; simp only [ParS.vS, vW] at *; omega)
set_option maxHeartbeats 1000000 in
theorem right_any (x : Nd) (s nx og n : Nat) (hx : okF s x) (hog : og < 4096) (hnx : nx < n) (h0 : x = .fin → nx = 0) (o1 o2 oa : Option Addr) (c1 c2 nc : Nat) (gsv : Value) (w : World) :
    Ret Tryz.prog 52 [.agg [.slice o1 0 c1, .slice o2 0 c2, gsv].toArray, .agg [str [97], .int .i64 0, .int .i64 (s : Int), .slice oa n nc].toArray, .agg (ndC x nx og).toArray] w fun v w' => v = .bool true ∧ Chg [] w w' := by
 refine ret_of [_, _, _] func52 rfl ntmps52 rfl ?_
 have st := St.init w []
 have hK : nK x = 1 ∨ nK x = 7 ∨ nK x = 9 := by cases x <;> simp [nK]
 have hO : 0 ≤ nO x ∧ nO x < 19 := by
  cases x with
  | set op t a b => exact ⟨Int.le_of_lt hx.1, hx.2.1⟩
  | prt a => exact ⟨Int.le_refl 0, (by decide : (0 : Int) < 19)⟩
  | fin => exact ⟨Int.le_refl 0, (by decide : (0 : Int) < 19)⟩
 refine sr ?_
 refine vc_e (e_bx (l := [_, _, _]) st rfl rfl rfl rfl ?_)
 intro b3 w hb3 st
 refine vc_e (e_bx (l := [_, _, _, _]) st rfl rfl rfl rfl ?_)
 intro b4 w hb4 st
 refine vc_e (e_bx (l := [_, _, _, _, _, _, _, _, _, _, _, _, _]) st rfl rfl rfl rfl ?_)
 intro b5 w hb5 st
 refine ya ?_
 refine et (vk3 3 4 5 (vc_seq (sr ?_)))
 refine vy (y_fa0 rfl underlying103 rfl rfl sizeOf47 rfl) ?_
 refine vy ((by first | exact y_ld st 0 rfl isAgg47 rfl rfl | exact y_ld st 1 rfl isAgg47 rfl rfl | exact y_ld st 2 rfl isAgg47 rfl rfl | exact y_ld st 3 rfl isAgg47 rfl rfl | exact y_ld st 4 rfl isAgg47 rfl rfl)) ?_
 refine vy (y_eqi rfl rfl) ?_
 refine vmb ?_ ?_
 ·intro hg14
  exfalso; simp only [decide_eq_true_eq] at hg14; omega
 intro hg14
 try simp only [decide_eq_true_eq, decide_eq_false_iff_not, Bool.not_eq_true', Bool.not_eq_false', Bool.not_eq_true, Bool.not_eq_false, Int.not_lt, Int.not_le, Nat.not_lt, Nat.not_le, Bool.not_true, Bool.not_false, Bool.true_eq_false, Bool.false_eq_true] at hg14
 refine vy (y_fa0 rfl underlying103 rfl rfl sizeOf47 rfl) ?_
 refine vy ((by first | exact y_ld st 0 rfl isAgg47 rfl rfl | exact y_ld st 1 rfl isAgg47 rfl rfl | exact y_ld st 2 rfl isAgg47 rfl rfl | exact y_ld st 3 rfl isAgg47 rfl rfl | exact y_ld st 4 rfl isAgg47 rfl rfl)) ?_
 refine vy (y_geq rfl rfl) ?_
 refine ypf ?_
 refine vmb ?_ ?_
 ·intro hg19
  exfalso; simp only [decide_eq_true_eq] at hg19; omega
 intro hg19
 try simp only [decide_eq_true_eq, decide_eq_false_iff_not, Bool.not_eq_true', Bool.not_eq_false', Bool.not_eq_true, Bool.not_eq_false, Int.not_lt, Int.not_le, Nat.not_lt, Nat.not_le, Bool.not_true, Bool.not_false, Bool.true_eq_false, Bool.false_eq_true] at hg19
 refine vy ((by first | exact y_faz (k := 12) rfl underlying103 rfl rfl sizeOf3 rfl | exact y_fa (k := 12) rfl underlying103 rfl rfl sizeOf3 rfl)) ?_
 refine vy ((by first | exact y_ld st 0 rfl isAgg3 rfl rfl | exact y_ld st 1 rfl isAgg3 rfl rfl | exact y_ld st 2 rfl isAgg3 rfl rfl | exact y_ld st 3 rfl isAgg3 rfl rfl | exact y_ld st 4 rfl isAgg3 rfl rfl)) ?_
 refine vy (y_lss rfl rfl) ?_
 refine ypf ?_
 refine vmb ?_ ?_
 ·intro hg24
  exfalso; simp only [decide_eq_true_eq] at hg24; omega
 intro hg24
 try simp only [decide_eq_true_eq, decide_eq_false_iff_not, Bool.not_eq_true', Bool.not_eq_false', Bool.not_eq_true, Bool.not_eq_false, Int.not_lt, Int.not_le, Nat.not_lt, Nat.not_le, Bool.not_true, Bool.not_false, Bool.true_eq_false, Bool.false_eq_true] at hg24
 refine vy ((by first | exact y_faz (k := 12) rfl underlying103 rfl rfl sizeOf3 rfl | exact y_fa (k := 12) rfl underlying103 rfl rfl sizeOf3 rfl)) ?_
 refine vy ((by first | exact y_ld st 0 rfl isAgg3 rfl rfl | exact y_ld st 1 rfl isAgg3 rfl rfl | exact y_ld st 2 rfl isAgg3 rfl rfl | exact y_ld st 3 rfl isAgg3 rfl rfl | exact y_ld st 4 rfl isAgg3 rfl rfl)) ?_
 refine vy (y_geq rfl rfl) ?_
 refine ypf ?_
 refine et (vk4 3 4 5 28 ?_)
 refine vif ?_ ?_
 ·intro hc28
  exfalso; simp only [decide_eq_true_eq] at hc28; omega
 intro hc28
 try simp only [decide_eq_true_eq, decide_eq_false_iff_not, Bool.not_eq_true', Bool.not_eq_false', Bool.not_eq_true, Bool.not_eq_false, Int.not_lt, Int.not_le, Nat.not_lt, Nat.not_le, Bool.not_true, Bool.not_false, Bool.true_eq_false, Bool.false_eq_true] at hc28
 refine kt (vk3 3 4 5 (sr ?_))
 refine vy ((by first | exact y_lda (vs := [_, _, _, _, _, _, _, _, _, _, _, _, _]) st 0 rfl isAgg103 sizeOf103 rfl rfl | exact y_lda (vs := [_, _, _, _, _, _, _, _, _, _, _, _, _]) st 1 rfl isAgg103 sizeOf103 rfl rfl | exact y_lda (vs := [_, _, _, _, _, _, _, _, _, _, _, _, _]) st 2 rfl isAgg103 sizeOf103 rfl rfl | exact y_lda (vs := [_, _, _, _, _, _, _, _, _, _, _, _, _]) st 3 rfl isAgg103 sizeOf103 rfl rfl | exact y_lda (vs := [_, _, _, _, _, _, _, _, _, _, _, _, _]) st 4 rfl isAgg103 sizeOf103 rfl rfl)) ?_
 refine vc_e (e_call [_] rfl rfl call106 rfl (parts_any x nx og _) ?_)
 rintro _ w ⟨rfl, cw⟩
 replace st := st.call0 cw
 refine vc_e (e_al (l := [_]) st rfl rfl zeroValue174 rfl ?_)
 intro b7 w hb7 st
 first
 | refine vc_e (est st 0 sizeOf174 ?_)
 | refine vc_e (est st 1 sizeOf174 ?_)
 | refine vc_e (est st 2 sizeOf174 ?_)
 | refine vc_e (est st 3 sizeOf174 ?_)
 | refine vc_e (est st 4 sizeOf174 ?_)
 intro w st; dsimp only [setNth, wr] at st
 refine et (vk4 3 4 5 7 (sr ?_))
 refine vy (y_mf [] [_] rfl rfl) ?_
 refine ya ?_
 refine et (vk5 3 4 5 7 8 (sr ?_))
 refine vy (y_mf [] [_, _] rfl rfl) ?_
 refine ya ?_
 refine et (vk5 3 4 5 8 9 (sr ?_))
 refine vy (y_fa0 rfl underlying40 rfl rfl sizeOf37 rfl) ?_
 refine vy ((by first | exact y_ld st 0 rfl isAgg37 rfl rfl | exact y_ld st 1 rfl isAgg37 rfl rfl | exact y_ld st 2 rfl isAgg37 rfl rfl | exact y_ld st 3 rfl isAgg37 rfl rfl | exact y_ld st 4 rfl isAgg37 rfl rfl)) ?_
 refine vy (y_lensl rfl underlying37) ?_
 refine ya ?_
 refine et (vk6 3 4 5 8 9 10 (vc_seq (sr ?_)))
 refine vy (y_fa0 rfl underlying103 rfl rfl sizeOf47 rfl) ?_
 refine vy ((by first | exact y_ld st 0 rfl isAgg47 rfl rfl | exact y_ld st 1 rfl isAgg47 rfl rfl | exact y_ld st 2 rfl isAgg47 rfl rfl | exact y_ld st 3 rfl isAgg47 rfl rfl | exact y_ld st 4 rfl isAgg47 rfl rfl)) ?_
 refine vy (y_eqi rfl rfl) ?_
 refine vmb ?_ ?_
 ·intro hg39
  exfalso; simp only [decide_eq_true_eq] at hg39; omega
 intro hg39
 try simp only [decide_eq_true_eq, decide_eq_false_iff_not, Bool.not_eq_true', Bool.not_eq_false', Bool.not_eq_true, Bool.not_eq_false, Int.not_lt, Int.not_le, Nat.not_lt, Nat.not_le, Bool.not_true, Bool.not_false, Bool.true_eq_false, Bool.false_eq_true] at hg39
 refine vy (y_fa0 rfl underlying103 rfl rfl sizeOf47 rfl) ?_
 refine vy ((by first | exact y_ld st 0 rfl isAgg47 rfl rfl | exact y_ld st 1 rfl isAgg47 rfl rfl | exact y_ld st 2 rfl isAgg47 rfl rfl | exact y_ld st 3 rfl isAgg47 rfl rfl | exact y_ld st 4 rfl isAgg47 rfl rfl)) ?_
 refine vy (y_eqi rfl rfl) ?_
 refine ypf ?_
 refine et (vk7 3 4 5 8 9 10 43 ?_)
 refine vif ?_ ?_
 ·intro hc43
  exfalso; simp only [decide_eq_true_eq] at hc43; omega
 intro hc43
 try simp only [decide_eq_true_eq, decide_eq_false_iff_not, Bool.not_eq_true', Bool.not_eq_false', Bool.not_eq_true, Bool.not_eq_false, Int.not_lt, Int.not_le, Nat.not_lt, Nat.not_le, Bool.not_true, Bool.not_false, Bool.true_eq_false, Bool.false_eq_true] at hc43
 refine kt (vk5 4 5 8 9 10 (sr ?_))
 refine ym ?_
 refine vy ((by first | exact y_faz (k := 1) rfl underlying103 rfl rfl sizeOf24 rfl | exact y_fa (k := 1) rfl underlying103 rfl rfl sizeOf24 rfl)) ?_
 refine vy ((by first | exact y_ld st 0 rfl isAgg24 rfl rfl | exact y_ld st 1 rfl isAgg24 rfl rfl | exact y_ld st 2 rfl isAgg24 rfl rfl | exact y_ld st 3 rfl isAgg24 rfl rfl | exact y_ld st 4 rfl isAgg24 rfl rfl)) ?_
 refine vy (y_cvi rfl underlying3 underlying24 (IntWalk.i64_in (nO x) ⟨by omega, by omega⟩)) ?_
 refine vc_e (e_callv [_, _, _] rfl rfl rfl call107 rfl (within_any (pN x) 1 (nO x) 19 b7 _ _ _ (st.res (i := 0) rfl)) ?_)
 rintro _ _ ⟨rfl, rfl⟩
 rw [ck1 hx]
 refine vmb ?_ ?_
 ·intro hg52
  try simp only [decide_eq_true_eq, decide_eq_false_iff_not, Bool.not_eq_true', Bool.not_eq_false', Bool.not_eq_true, Bool.not_eq_false, Int.not_lt, Int.not_le, Nat.not_lt, Nat.not_le, Bool.not_true, Bool.not_false, Bool.true_eq_false, Bool.false_eq_true] at hg52
  refine ym ?_
  refine vy ((by first | exact y_faz (k := 2) rfl underlying103 rfl rfl sizeOf3 rfl | exact y_fa (k := 2) rfl underlying103 rfl rfl sizeOf3 rfl)) ?_
  refine vy ((by first | exact y_ld st 0 rfl isAgg3 rfl rfl | exact y_ld st 1 rfl isAgg3 rfl rfl | exact y_ld st 2 rfl isAgg3 rfl rfl | exact y_ld st 3 rfl isAgg3 rfl rfl | exact y_ld st 4 rfl isAgg3 rfl rfl)) ?_
  refine vy ((by first | exact y_faz (k := 2) rfl underlying98 rfl rfl sizeOf3 rfl | exact y_fa (k := 2) rfl underlying98 rfl rfl sizeOf3 rfl)) ?_
  refine vy ((by first | exact y_ld st 0 rfl isAgg3 rfl rfl | exact y_ld st 1 rfl isAgg3 rfl rfl | exact y_ld st 2 rfl isAgg3 rfl rfl | exact y_ld st 3 rfl isAgg3 rfl rfl | exact y_ld st 4 rfl isAgg3 rfl rfl)) ?_
  refine vc_e (e_callv [_, _, _] rfl rfl rfl call107 rfl (within_any (pN x) 2 (nS x) (s : Int) b7 _ _ _ (st.res (i := 0) rfl)) ?_)
  rintro _ _ ⟨rfl, rfl⟩
  rw [ck2 hx]
  refine ypt ?_
  refine vmb ?_ ?_
  ·intro hg60
   try simp only [decide_eq_true_eq, decide_eq_false_iff_not, Bool.not_eq_true', Bool.not_eq_false', Bool.not_eq_true, Bool.not_eq_false, Int.not_lt, Int.not_le, Nat.not_lt, Nat.not_le, Bool.not_true, Bool.not_false, Bool.true_eq_false, Bool.false_eq_true] at hg60
   refine ym ?_
   refine vy ((by first | exact y_faz (k := 3) rfl underlying103 rfl rfl sizeOf3 rfl | exact y_fa (k := 3) rfl underlying103 rfl rfl sizeOf3 rfl)) ?_
   refine vy ((by first | exact y_ld st 0 rfl isAgg3 rfl rfl | exact y_ld st 1 rfl isAgg3 rfl rfl | exact y_ld st 2 rfl isAgg3 rfl rfl | exact y_ld st 3 rfl isAgg3 rfl rfl | exact y_ld st 4 rfl isAgg3 rfl rfl)) ?_
   refine ym ?_
   refine vc_e (e_callv [_, _, _] rfl rfl rfl call107 rfl (within_any (pN x) 4 0 _ b7 _ _ _ (st.res (i := 0) rfl)) ?_)
   rintro _ _ ⟨rfl, rfl⟩
   rw [ck3]
   refine ypt ?_
   refine vmb ?_ ?_
   ·intro hg67
    try simp only [decide_eq_true_eq, decide_eq_false_iff_not, Bool.not_eq_true', Bool.not_eq_false', Bool.not_eq_true, Bool.not_eq_false, Int.not_lt, Int.not_le, Nat.not_lt, Nat.not_le, Bool.not_true, Bool.not_false, Bool.true_eq_false, Bool.false_eq_true] at hg67
    refine ym ?_
    refine vy ((by first | exact y_faz (k := 10) rfl underlying103 rfl rfl sizeOf3 rfl | exact y_fa (k := 10) rfl underlying103 rfl rfl sizeOf3 rfl)) ?_
    refine vy ((by first | exact y_ld st 0 rfl isAgg3 rfl rfl | exact y_ld st 1 rfl isAgg3 rfl rfl | exact y_ld st 2 rfl isAgg3 rfl rfl | exact y_ld st 3 rfl isAgg3 rfl rfl | exact y_ld st 4 rfl isAgg3 rfl rfl)) ?_
    refine vy ((by first | exact y_faz (k := 3) rfl underlying98 rfl rfl sizeOf96 rfl | exact y_fa (k := 3) rfl underlying98 rfl rfl sizeOf96 rfl)) ?_
    refine vy ((by first | exact y_ld st 0 rfl isAgg96 rfl rfl | exact y_ld st 1 rfl isAgg96 rfl rfl | exact y_ld st 2 rfl isAgg96 rfl rfl | exact y_ld st 3 rfl isAgg96 rfl rfl | exact y_ld st 4 rfl isAgg96 rfl rfl)) ?_
    refine vy (y_lensl rfl underlying96) ?_
    refine vc_e (e_callv [_, _, _] rfl rfl rfl call107 rfl (within_any (pN x) 32 (nx : Int) (n : Int) b7 _ _ _ (st.res (i := 0) rfl)) ?_)
    rintro _ _ ⟨rfl, rfl⟩
    rw [ck4 hnx h0]
    refine ypt ?_
    refine vmb ?_ ?_
    ·intro hg76
     try simp only [decide_eq_true_eq, decide_eq_false_iff_not, Bool.not_eq_true', Bool.not_eq_false', Bool.not_eq_true, Bool.not_eq_false, Int.not_lt, Int.not_le, Nat.not_lt, Nat.not_le, Bool.not_true, Bool.not_false, Bool.true_eq_false, Bool.false_eq_true] at hg76
     refine ym ?_
     refine vy ((by first | exact y_faz (k := 11) rfl underlying103 rfl rfl sizeOf3 rfl | exact y_fa (k := 11) rfl underlying103 rfl rfl sizeOf3 rfl)) ?_
     refine vy ((by first | exact y_ld st 0 rfl isAgg3 rfl rfl | exact y_ld st 1 rfl isAgg3 rfl rfl | exact y_ld st 2 rfl isAgg3 rfl rfl | exact y_ld st 3 rfl isAgg3 rfl rfl | exact y_ld st 4 rfl isAgg3 rfl rfl)) ?_
     refine vy ((by first | exact y_faz (k := 3) rfl underlying98 rfl rfl sizeOf96 rfl | exact y_fa (k := 3) rfl underlying98 rfl rfl sizeOf96 rfl)) ?_
     refine vy ((by first | exact y_ld st 0 rfl isAgg96 rfl rfl | exact y_ld st 1 rfl isAgg96 rfl rfl | exact y_ld st 2 rfl isAgg96 rfl rfl | exact y_ld st 3 rfl isAgg96 rfl rfl | exact y_ld st 4 rfl isAgg96 rfl rfl)) ?_
     refine vy (y_lensl rfl underlying96) ?_
     refine vc_e (e_callv [_, _, _] rfl rfl rfl call107 rfl (within_any (pN x) 64 0 _ b7 _ _ _ (st.res (i := 0) rfl)) ?_)
     rintro _ _ ⟨rfl, rfl⟩
     rw [ck5]
     refine ypt ?_
     refine vmb ?_ ?_
     ·intro hg85
      try simp only [decide_eq_true_eq, decide_eq_false_iff_not, Bool.not_eq_true', Bool.not_eq_false', Bool.not_eq_true, Bool.not_eq_false, Int.not_lt, Int.not_le, Nat.not_lt, Nat.not_le, Bool.not_true, Bool.not_false, Bool.true_eq_false, Bool.false_eq_true] at hg85
      refine ym ?_
      refine vy ((by first | exact y_faz (k := 4) rfl underlying103 rfl rfl sizeOf101 rfl | exact y_fa (k := 4) rfl underlying103 rfl rfl sizeOf101 rfl)) ?_
      refine vy ((by first | exact y_lda (vs := [_, _, _]) st 0 rfl isAgg101 sizeOf101 rfl rfl | exact y_lda (vs := [_, _, _]) st 1 rfl isAgg101 sizeOf101 rfl rfl | exact y_lda (vs := [_, _, _]) st 2 rfl isAgg101 sizeOf101 rfl rfl | exact y_lda (vs := [_, _, _]) st 3 rfl isAgg101 sizeOf101 rfl rfl | exact y_lda (vs := [_, _, _]) st 4 rfl isAgg101 sizeOf101 rfl rfl)) ?_
      refine vc_e (e_callv [_, _] rfl rfl rfl call108 rfl (vok_any (pN x) 8 (nA x) s b7 b4 _ _ _ _ _ _ (st.res (i := 0) rfl) (st.res (i := 2) rfl) (st.bne 0 2 (by decide) rfl rfl) (ckA hx)) ?_)
      rintro _ w ⟨rfl, cw⟩
      replace st := st.call0 cw
      refine ypt ?_
      refine vmb ?_ ?_
      ·intro hg91
       try simp only [decide_eq_true_eq, decide_eq_false_iff_not, Bool.not_eq_true', Bool.not_eq_false', Bool.not_eq_true, Bool.not_eq_false, Int.not_lt, Int.not_le, Nat.not_lt, Nat.not_le, Bool.not_true, Bool.not_false, Bool.true_eq_false, Bool.false_eq_true] at hg91
       refine ym ?_
       refine vy ((by first | exact y_faz (k := 7) rfl underlying103 rfl rfl sizeOf101 rfl | exact y_fa (k := 7) rfl underlying103 rfl rfl sizeOf101 rfl)) ?_
       refine vy ((by first | exact y_lda (vs := [_, _, _]) st 0 rfl isAgg101 sizeOf101 rfl rfl | exact y_lda (vs := [_, _, _]) st 1 rfl isAgg101 sizeOf101 rfl rfl | exact y_lda (vs := [_, _, _]) st 2 rfl isAgg101 sizeOf101 rfl rfl | exact y_lda (vs := [_, _, _]) st 3 rfl isAgg101 sizeOf101 rfl rfl | exact y_lda (vs := [_, _, _]) st 4 rfl isAgg101 sizeOf101 rfl rfl)) ?_
       refine vc_e (e_callv [_, _] rfl rfl rfl call108 rfl (vok_any (pN x) 16 (nB x) s b7 b4 _ _ _ _ _ _ (st.res (i := 0) rfl) (st.res (i := 2) rfl) (st.bne 0 2 (by decide) rfl rfl) (ckB hx)) ?_)
       rintro _ w ⟨rfl, cw⟩
       replace st := st.call0 cw
       refine ypt ?_
       refine ya ?_
       refine et (vk1 6 (vc_ret ?_))
       refine vr1 st results52 ?_
       exact ⟨rfl, st.chg⟩
      intro hg91
      exfalso; revert hg91; decide
     intro hg85
     exfalso; revert hg85; decide
    intro hg76
    exfalso; revert hg76; decide
   intro hg67
   exfalso; revert hg67; decide
  intro hg60
  exfalso; revert hg60; decide
 intro hg52
 exfalso; revert hg52; decide
end Go.Proofs.YtjoepkpdanolkaaGreatDoor

