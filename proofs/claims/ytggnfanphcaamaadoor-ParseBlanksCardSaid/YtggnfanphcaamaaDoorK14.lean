/- A part of the proof: contracts of functions and plain laws; each theorem says its own conditions. -/
import Derived.Test.YtggnfanphcaamaaDoorK13
import Derived.Test.YtggnfanphcaamaaDoorK5
import Derived.Test.YtggnfanphcaamaaDoorK2
import Derived.Test.YtggnfanphcaamaaDoorK1
namespace Go.Proofs.YtggnfanphcaamaaDoor
open Go.RowKit Sx LexS ParS
set_option linter.unusedVariables false
set_option linter.unusedSimpArgs false

theorem parse_idle (args : List Value) (h3 : args.length = 3) (w : World) : DefIdle Tryd.prog 37 args.toArray w (fun w' => w' = w) := by
  refine callsD_of_wpS Tryd.func37 rfl fun c₀ cs hu => ?_
  obtain ⟨x, y, z, rfl⟩ : ∃ x y z, args = [x, y, z] := by
    match args, h3 with
    | [x, y, z], _ => exact ⟨x, y, z, rfl⟩
  apply wpS_seq
  apply wpS_region
  simp [wpOpsS, go_sem, recoverD, hu, Tryd.ntmps37, Exit.thenS]
  apply wpS_seq
  apply wpS_region
  simp [wpOpsS, go_sem, Exit.thenS]
  refine wpS_cond (t := false) (by simp [Act.eval, Array.replicate]) ?_
  simp only [Bool.false_eq_true, if_false]
  refine wpS_of_wp (wp_skip ?_)
  cases c₀
  simp_all [bodyPostS, results, Tryd.results37]

theorem _root_.Sx.St.push2 {w w' w0 : World} {M : List Nat} {hs : List Res} (st : St w0 M hs w) (c : Chg [] w w') {r q : Res} (hr : r.holds w0.heap.size w') (hq : q.holds w0.heap.size w') (hat : ∀ k ∈ r.at?, w.heap.size ≤ k) (hat' : ∀ k ∈ q.at?, w.heap.size ≤ k) (hd : ∀ k ∈ r.at?, k ∉ q.at?) : St w0 M (r :: q :: hs) w' := by
  have st1 := st.pushR c hq hat'
  refine ⟨st1.chg, List.pairwise_cons.2 ⟨fun x hx k hk hk' => ?_, st1.nodup⟩, fun x hx => ?_⟩
  · rcases List.mem_cons.1 hx with rfl | h
    · exact hd k hk hk'
    · exact absurd (st.lt h hk') (by have := hat k hk; omega)
  · rcases List.mem_cons.1 hx with rfl | h
    · exact hr
    · exact st1.here x h
theorem _root_.Sx.St.pnew {s : List UInt8} {c : PCtx} {w w' w0 : World} {M : List Nat} {hs : List Res} (st : St w0 M hs w) (ch : Chg [] w w') (h : PNew s w.heap.size c w') :
    St w0 M (.blk c.pb (.cells (pcell c c.ts).toArray c.T (0, 0)) :: .own (.slice c.oa c.ts.length c.cap) 53 4 c.ts.length (toksL c.ts) :: hs) w' :=
  st.push2 ch h.at_ (ownsRow_base h.own st.chg.size) (by simpa [Res.at?] using h.le) (fun k hk => (World.ownsRow.lt h.own k (by simpa [Res.at?] using hk)).1)
    (fun k hk => by
      simp only [Res.at?, List.mem_singleton] at hk
      subst hk
      intro hk'
      simp only [Res.at?, obk_own] at hk'
      exact absurd (h.lt _ hk') (Nat.lt_irrefl _))

/-- what 'Parse' leaves behind -/
def ParsePost (s : List UInt8) (w : World) (v : Value) (w' : World) : Prop := Chg [] w w' ∧ ∃ vp, HP w (parseRes s).1 vp w' ∧ v = .tuple #[vp, .int .i64 ((parseRes s).2.1 : Int), .agg #[.int .i64 ((parseRes s).2.2.1 : Int), .int .i64 ((parseRes s).2.2.2 : Int)]]
theorem hp_none (w0 : World) (w' : World) : HP w0 pg0 (.agg pg00.toArray) w' :=
  ⟨none, none, none, 0, 0, 0, [], rfl, ⟨none, 0, none, 0, none, 0, [], [], [], rfl, ⟨World.ownsRow_nil _ _ _ _, rfl⟩, ⟨World.ownsRow_nil _ _ _ _, rfl⟩, ⟨[], [], World.ownsRow_nil _ _ _ _, rfl, rfl, rfl⟩, rfl⟩, Nw.nil⟩
theorem _root_.Sx.holds_pg {tE tS tD tT base : Nat} {w : World} {q : Pg} {l : List Value} {S : List Nat} (h : PgS tE tS tD tT w q l S) : (Res.tree S fun w => PgS tE tS tD tT w q l S).holds base w := holds_of h h.lt (fun a b h hk => h.kept hk)

/-- a refusal is caught -/
theorem parse_pan {s : List UInt8} {w0 w : World} {b2 b3 b4 : Nat} {f : Flt} {kn : Kn} (h2 : w.heap[b2]? = some (.cells pg00.toArray 44 (0, 0))) (h3 : w.heap[b3]? = some (.cells [.int .i64 0].toArray 27 (0, 0))) (h4 : w.heap[b4]? = some (.cells [.int .i64 0, .int .i64 0].toArray 29 (0, 0)))
    (n1 : b2 ≠ b3) (n2 : b2 ≠ b4) (n3 : b3 ≠ b4) (l2 : w0.heap.size ≤ b2) (l3 : w0.heap.size ≤ b3) (l4 : w0.heap.size ≤ b4) (ch : Chg [] w0 w) (hpr : parseRes s = (pg0, 30, f.1, f.2))
    (k2 : find kn 2 = some (.pointer (some ⟨b2, 0, none⟩))) (k3 : find kn 3 = some (.pointer (some ⟨b3, 0, none⟩))) (k4 : find kn 4 = some (.pointer (some ⟨b4, 0, none⟩))) :
    PanK (21, [⟨.fn (.func 37) (List.toArray [.pointer (some ⟨b2, 0, none⟩), .pointer (some ⟨b3, 0, none⟩), .pointer (some ⟨b4, 0, none⟩)]), #[]⟩]) kn (bodyPostD Tryd.prog Tryd.f16 fun e w' => ∃ v, e = .returned v ∧ ParsePost s w0 v w') (.iface 65 (.agg #[.int .i64 (f.1 : Int), .int .i64 (f.2 : Int)])) w := by
  refine pan_leave Tryd.call37 (parse_catch b2 b3 b4 f.1 f.2 _ w h2 h3 h4 n1 n2 n3) (fun w2 hc => ?_)
  obtain ⟨g2, g3, g4, c2⟩ := hc
  have st2 := St.of3 [] g2 g3 g4 n1 n2 n3
  refine ⟨_, results3 st2 Tryd.results16 (.cell 0 k2 rfl Tryd.isAgg44 Tryd.sizeOf44) (.cell1 1 k3 rfl Tryd.isAgg27 rfl) (.cell 2 k4 rfl Tryd.isAgg29 Tryd.sizeOf29), _, rfl, ch.trans' c2 (by simp [l2, l3, l4]), ?_⟩
  rw [hpr]
  exact ⟨_, hp_none _ _, rfl⟩

set_option maxHeartbeats 1000000 in
theorem parse_any (s : List UInt8) (w : World) (hsg : SigAt 0 w) : Ret Tryd.prog 16 [str s] w (ParsePost s w) := by
  refine retd_of [_] Tryd.func16 rfl Tryd.ntmps16 rfl ?_
  have st := St.init w []
  obtain ⟨w0, rfl⟩ : ∃ w0, w0 = w := ⟨_, rfl⟩
  have h0 : 0 < w0.heap.size := World.block_lt_of_cell? w0 _ (hsg 0 (by omega)).1
  refine vc_seq ?_
  refine vc_region ?_
  refine vc_e (e_al (l := [_, _, _]) st rfl rfl Tryd.zeroValue44 rfl ?_)
  intro b2 w hb2 st
  refine vc_e (e_al (l := [_]) st rfl rfl Tryd.zeroValue27 rfl ?_)
  intro b3 w hb3 st
  refine vc_e (e_al (l := [_, _]) st rfl rfl Tryd.zeroValue29 rfl ?_)
  intro b4 w hb4 st
  refine vc_end ?_
  refine vq_then ?_
  refine vc_keep [(0, _), (2, _), (3, _), (4, _)] ⟨rfl, rfl, rfl, rfl, trivial⟩ ?_
  refine vc_seq ?_
  refine vc_region ?_
  refine vc_y rfl rfl (y_mv rfl) ?_
  have n43 := st.bne 0 1 (by decide) rfl rfl
  have n42 := st.bne 0 2 (by decide) rfl rfl
  have n32 := st.bne 1 2 (by decide) rfl rfl
  have n34 := Ne.symm n43
  have n24 := Ne.symm n42
  have n23 := Ne.symm n32
  have hw1 := st.chg.size
  refine vc_e (e_call [_] rfl rfl Tryd.call27 rfl (begun_any s _ (hsg.kept st.chg (by simp))) ?_)
  rintro _ w ⟨cw, hb⟩
  rcases hb with ⟨hl, rfl⟩ | ⟨hl, ru, pl, hfr, rfl⟩ | ⟨hl, hfr, c, hn, rfl⟩
  · replace st := st.call0 cw
    have hpr : parseRes s = (pg0, 4, 0, 0) := by simp [parseRes, hl]
    refine vc_y rfl rfl (y_mv rfl) ?_
    refine vc_y rfl rfl (y_ext rfl rfl) ?_
    refine vc_y rfl rfl (y_ext rfl rfl) ?_
    refine vc_y rfl rfl (y_ext rfl rfl) ?_
    refine vc_y rfl rfl (y_as rfl) ?_
    first
    | refine vc_e (e_st st 0 rfl rfl rfl rfl Tryd.sizeOf27 rfl rfl (by first | (right; assumption) | (left; simp)) ?_)
    | refine vc_e (e_st st 1 rfl rfl rfl rfl Tryd.sizeOf27 rfl rfl (by first | (right; assumption) | (left; simp)) ?_)
    | refine vc_e (e_st st 2 rfl rfl rfl rfl Tryd.sizeOf27 rfl rfl (by first | (right; assumption) | (left; simp)) ?_)
    | refine vc_e (e_st st 3 rfl rfl rfl rfl Tryd.sizeOf27 rfl rfl (by first | (right; assumption) | (left; simp)) ?_)
    | refine vc_e (e_st st 4 rfl rfl rfl rfl Tryd.sizeOf27 rfl rfl (by first | (right; assumption) | (left; simp)) ?_)
    | refine vc_e (e_st st 5 rfl rfl rfl rfl Tryd.sizeOf27 rfl rfl (by first | (right; assumption) | (left; simp)) ?_)
    | refine vc_e (e_st st 6 rfl rfl rfl rfl Tryd.sizeOf27 rfl rfl (by first | (right; assumption) | (left; simp)) ?_)
    | refine vc_e (e_st st 7 rfl rfl rfl rfl Tryd.sizeOf27 rfl rfl (by first | (right; assumption) | (left; simp)) ?_)
    | refine vc_e (e_st st 8 rfl rfl rfl rfl Tryd.sizeOf27 rfl rfl (by first | (right; assumption) | (left; simp)) ?_)
    intro w st; dsimp only [setNth, wr] at st
    first
    | refine vc_e (e_sts (vs := [_, _]) st 0 rfl rfl rfl rfl rfl Tryd.sizeOf29 rfl rfl (by first | (right; assumption) | (left; simp)) ?_)
    | refine vc_e (e_sts (vs := [_, _]) st 1 rfl rfl rfl rfl rfl Tryd.sizeOf29 rfl rfl (by first | (right; assumption) | (left; simp)) ?_)
    | refine vc_e (e_sts (vs := [_, _]) st 2 rfl rfl rfl rfl rfl Tryd.sizeOf29 rfl rfl (by first | (right; assumption) | (left; simp)) ?_)
    | refine vc_e (e_sts (vs := [_, _]) st 3 rfl rfl rfl rfl rfl Tryd.sizeOf29 rfl rfl (by first | (right; assumption) | (left; simp)) ?_)
    | refine vc_e (e_sts (vs := [_, _]) st 4 rfl rfl rfl rfl rfl Tryd.sizeOf29 rfl rfl (by first | (right; assumption) | (left; simp)) ?_)
    | refine vc_e (e_sts (vs := [_, _]) st 5 rfl rfl rfl rfl rfl Tryd.sizeOf29 rfl rfl (by first | (right; assumption) | (left; simp)) ?_)
    | refine vc_e (e_sts (vs := [_, _]) st 6 rfl rfl rfl rfl rfl Tryd.sizeOf29 rfl rfl (by first | (right; assumption) | (left; simp)) ?_)
    | refine vc_e (e_sts (vs := [_, _]) st 7 rfl rfl rfl rfl rfl Tryd.sizeOf29 rfl rfl (by first | (right; assumption) | (left; simp)) ?_)
    | refine vc_e (e_sts (vs := [_, _]) st 8 rfl rfl rfl rfl rfl Tryd.sizeOf29 rfl rfl (by first | (right; assumption) | (left; simp)) ?_)
    intro w st; dsimp only [setNth, wr] at st
    refine vc_end ?_
    refine vq_then ?_
    refine vc_keep [(2, _), (3, _), (4, _), (5, _)] ⟨rfl, rfl, rfl, rfl, trivial⟩ ?_
    refine vc_seq ?_
    refine vc_seq ?_
    refine vc_region ?_
    refine vc_y rfl rfl ((by first | exact y_ld st 0 rfl Tryd.isAgg27 rfl rfl | exact y_ld st 1 rfl Tryd.isAgg27 rfl rfl | exact y_ld st 2 rfl Tryd.isAgg27 rfl rfl | exact y_ld st 3 rfl Tryd.isAgg27 rfl rfl | exact y_ld st 4 rfl Tryd.isAgg27 rfl rfl | exact y_ld st 5 rfl Tryd.isAgg27 rfl rfl | exact y_ld st 6 rfl Tryd.isAgg27 rfl rfl | exact y_ld st 7 rfl Tryd.isAgg27 rfl rfl | exact y_ld st 8 rfl Tryd.isAgg27 rfl rfl)) ?_
    refine vc_y rfl rfl (y_nei rfl rfl) ?_
    refine vc_end ?_
    refine vq_then ?_
    refine vc_keep [(2, _), (3, _), (4, _), (5, _), (13, _)] ⟨rfl, rfl, rfl, rfl, rfl, trivial⟩ ?_
    refine vc_ifs rfl ?_ ?_
    · intro hc13
      try simp only [decide_eq_true_eq, decide_eq_false_iff_not, Bool.not_eq_true', Bool.not_eq_false', Bool.not_eq_true, Bool.not_eq_false, Int.not_lt, Int.not_le, Nat.not_lt, Nat.not_le, Bool.not_true, Bool.not_false, Bool.true_eq_false, Bool.false_eq_true] at hc13
      refine vc_seq ?_
      refine vc_noPan ?_
      refine vc_draw Tryd.mixed [(0, true), (1, true), (2, true), (3, false), (4, false), (5, false)] (fun w => St _ _ _ w) st (by kernel_rfl) (by repeat (first | exact okQ_noPan | exact okQ_body | exact okQ_bodyS | refine okQ_then ?_ | refine okQ_block ?_)) rfl (by kernel_rfl) ?_
      intro w cd; replace st := st.call0 cd; clear cd
      have hS := st
      refine vp_take rfl rfl rfl hS (fun w st => (by first | exact y_lda (vs := [_, _, _]) st 0 rfl Tryd.isAgg44 Tryd.sizeOf44 rfl rfl | exact y_lda (vs := [_, _, _]) st 1 rfl Tryd.isAgg44 Tryd.sizeOf44 rfl rfl | exact y_lda (vs := [_, _, _]) st 2 rfl Tryd.isAgg44 Tryd.sizeOf44 rfl rfl | exact y_lda (vs := [_, _, _]) st 3 rfl Tryd.isAgg44 Tryd.sizeOf44 rfl rfl | exact y_lda (vs := [_, _, _]) st 4 rfl Tryd.isAgg44 Tryd.sizeOf44 rfl rfl | exact y_lda (vs := [_, _, _]) st 5 rfl Tryd.isAgg44 Tryd.sizeOf44 rfl rfl | exact y_lda (vs := [_, _, _]) st 6 rfl Tryd.isAgg44 Tryd.sizeOf44 rfl rfl | exact y_lda (vs := [_, _, _]) st 7 rfl Tryd.isAgg44 Tryd.sizeOf44 rfl rfl | exact y_lda (vs := [_, _, _]) st 8 rfl Tryd.isAgg44 Tryd.sizeOf44 rfl rfl)) ?_
      refine vp_take rfl rfl rfl hS (fun w st => (by first | exact y_ld st 0 rfl Tryd.isAgg27 rfl rfl | exact y_ld st 1 rfl Tryd.isAgg27 rfl rfl | exact y_ld st 2 rfl Tryd.isAgg27 rfl rfl | exact y_ld st 3 rfl Tryd.isAgg27 rfl rfl | exact y_ld st 4 rfl Tryd.isAgg27 rfl rfl | exact y_ld st 5 rfl Tryd.isAgg27 rfl rfl | exact y_ld st 6 rfl Tryd.isAgg27 rfl rfl | exact y_ld st 7 rfl Tryd.isAgg27 rfl rfl | exact y_ld st 8 rfl Tryd.isAgg27 rfl rfl)) ?_
      refine vp_take rfl rfl rfl hS (fun w st => (by first | exact y_lda (vs := [_, _]) st 0 rfl Tryd.isAgg29 Tryd.sizeOf29 rfl rfl | exact y_lda (vs := [_, _]) st 1 rfl Tryd.isAgg29 Tryd.sizeOf29 rfl rfl | exact y_lda (vs := [_, _]) st 2 rfl Tryd.isAgg29 Tryd.sizeOf29 rfl rfl | exact y_lda (vs := [_, _]) st 3 rfl Tryd.isAgg29 Tryd.sizeOf29 rfl rfl | exact y_lda (vs := [_, _]) st 4 rfl Tryd.isAgg29 Tryd.sizeOf29 rfl rfl | exact y_lda (vs := [_, _]) st 5 rfl Tryd.isAgg29 Tryd.sizeOf29 rfl rfl | exact y_lda (vs := [_, _]) st 6 rfl Tryd.isAgg29 Tryd.sizeOf29 rfl rfl | exact y_lda (vs := [_, _]) st 7 rfl Tryd.isAgg29 Tryd.sizeOf29 rfl rfl | exact y_lda (vs := [_, _]) st 8 rfl Tryd.isAgg29 Tryd.sizeOf29 rfl rfl)) ?_
      first
      | refine vp_do rfl (e_sts (vs := [_, _, _]) st 0 rfl rfl rfl rfl rfl Tryd.sizeOf44 rfl rfl (by first | (right; assumption) | (left; simp)) ?_)
      | refine vp_do rfl (e_sts (vs := [_, _, _]) st 1 rfl rfl rfl rfl rfl Tryd.sizeOf44 rfl rfl (by first | (right; assumption) | (left; simp)) ?_)
      | refine vp_do rfl (e_sts (vs := [_, _, _]) st 2 rfl rfl rfl rfl rfl Tryd.sizeOf44 rfl rfl (by first | (right; assumption) | (left; simp)) ?_)
      | refine vp_do rfl (e_sts (vs := [_, _, _]) st 3 rfl rfl rfl rfl rfl Tryd.sizeOf44 rfl rfl (by first | (right; assumption) | (left; simp)) ?_)
      | refine vp_do rfl (e_sts (vs := [_, _, _]) st 4 rfl rfl rfl rfl rfl Tryd.sizeOf44 rfl rfl (by first | (right; assumption) | (left; simp)) ?_)
      | refine vp_do rfl (e_sts (vs := [_, _, _]) st 5 rfl rfl rfl rfl rfl Tryd.sizeOf44 rfl rfl (by first | (right; assumption) | (left; simp)) ?_)
      | refine vp_do rfl (e_sts (vs := [_, _, _]) st 6 rfl rfl rfl rfl rfl Tryd.sizeOf44 rfl rfl (by first | (right; assumption) | (left; simp)) ?_)
      | refine vp_do rfl (e_sts (vs := [_, _, _]) st 7 rfl rfl rfl rfl rfl Tryd.sizeOf44 rfl rfl (by first | (right; assumption) | (left; simp)) ?_)
      | refine vp_do rfl (e_sts (vs := [_, _, _]) st 8 rfl rfl rfl rfl rfl Tryd.sizeOf44 rfl rfl (by first | (right; assumption) | (left; simp)) ?_)
      intro w st; dsimp only [setNth, wr] at st
      refine vp_next (by first | exact st | exact st.drop (by repeat (first | exact List.Sublist.slnil | apply List.Sublist.cons_cons | apply List.Sublist.cons))) ?_; intro hS
      first
      | refine vp_do rfl (e_st st 0 rfl rfl rfl rfl Tryd.sizeOf27 rfl rfl (by first | (right; assumption) | (left; simp)) ?_)
      | refine vp_do rfl (e_st st 1 rfl rfl rfl rfl Tryd.sizeOf27 rfl rfl (by first | (right; assumption) | (left; simp)) ?_)
      | refine vp_do rfl (e_st st 2 rfl rfl rfl rfl Tryd.sizeOf27 rfl rfl (by first | (right; assumption) | (left; simp)) ?_)
      | refine vp_do rfl (e_st st 3 rfl rfl rfl rfl Tryd.sizeOf27 rfl rfl (by first | (right; assumption) | (left; simp)) ?_)
      | refine vp_do rfl (e_st st 4 rfl rfl rfl rfl Tryd.sizeOf27 rfl rfl (by first | (right; assumption) | (left; simp)) ?_)
      | refine vp_do rfl (e_st st 5 rfl rfl rfl rfl Tryd.sizeOf27 rfl rfl (by first | (right; assumption) | (left; simp)) ?_)
      | refine vp_do rfl (e_st st 6 rfl rfl rfl rfl Tryd.sizeOf27 rfl rfl (by first | (right; assumption) | (left; simp)) ?_)
      | refine vp_do rfl (e_st st 7 rfl rfl rfl rfl Tryd.sizeOf27 rfl rfl (by first | (right; assumption) | (left; simp)) ?_)
      | refine vp_do rfl (e_st st 8 rfl rfl rfl rfl Tryd.sizeOf27 rfl rfl (by first | (right; assumption) | (left; simp)) ?_)
      intro w st; dsimp only [setNth, wr] at st
      refine vp_next (by first | exact st | exact st.drop (by repeat (first | exact List.Sublist.slnil | apply List.Sublist.cons_cons | apply List.Sublist.cons))) ?_; intro hS
      first
      | refine vp_do rfl (e_sts (vs := [_, _]) st 0 rfl rfl rfl rfl rfl Tryd.sizeOf29 rfl rfl (by first | (right; assumption) | (left; simp)) ?_)
      | refine vp_do rfl (e_sts (vs := [_, _]) st 1 rfl rfl rfl rfl rfl Tryd.sizeOf29 rfl rfl (by first | (right; assumption) | (left; simp)) ?_)
      | refine vp_do rfl (e_sts (vs := [_, _]) st 2 rfl rfl rfl rfl rfl Tryd.sizeOf29 rfl rfl (by first | (right; assumption) | (left; simp)) ?_)
      | refine vp_do rfl (e_sts (vs := [_, _]) st 3 rfl rfl rfl rfl rfl Tryd.sizeOf29 rfl rfl (by first | (right; assumption) | (left; simp)) ?_)
      | refine vp_do rfl (e_sts (vs := [_, _]) st 4 rfl rfl rfl rfl rfl Tryd.sizeOf29 rfl rfl (by first | (right; assumption) | (left; simp)) ?_)
      | refine vp_do rfl (e_sts (vs := [_, _]) st 5 rfl rfl rfl rfl rfl Tryd.sizeOf29 rfl rfl (by first | (right; assumption) | (left; simp)) ?_)
      | refine vp_do rfl (e_sts (vs := [_, _]) st 6 rfl rfl rfl rfl rfl Tryd.sizeOf29 rfl rfl (by first | (right; assumption) | (left; simp)) ?_)
      | refine vp_do rfl (e_sts (vs := [_, _]) st 7 rfl rfl rfl rfl rfl Tryd.sizeOf29 rfl rfl (by first | (right; assumption) | (left; simp)) ?_)
      | refine vp_do rfl (e_sts (vs := [_, _]) st 8 rfl rfl rfl rfl rfl Tryd.sizeOf29 rfl rfl (by first | (right; assumption) | (left; simp)) ?_)
      intro w st; dsimp only [setNth, wr] at st
      refine vp_next (by first | exact st | exact st.drop (by repeat (first | exact List.Sublist.slnil | apply List.Sublist.cons_cons | apply List.Sublist.cons))) ?_; intro hS
      refine vp_end ?_
      refine vq_noPan ?_
      refine vq_then ?_
      refine vc_keep [(2, _), (3, _), (4, _)] ⟨rfl, rfl, rfl, trivial⟩ ?_
      refine vc_ret ?_
      refine vq_then_ret ?_
      refine vqd_post (.inl rfl) (results3 st Tryd.results16 (.cell 2 rfl rfl Tryd.isAgg44 Tryd.sizeOf44) (.cell1 1 rfl rfl Tryd.isAgg27 rfl) (.cell 0 rfl rfl Tryd.isAgg29 Tryd.sizeOf29)) ?_
      refine ⟨_, rfl, st.chg, ?_⟩
      rw [hpr]
      exact ⟨_, hp_none _ _, rfl⟩
    · intro hc13
      exact absurd hc13 (by decide)
  · replace st := st.call0 cw
    have hpr : parseRes s = (pg0, 30, pl, 1) := by simp [parseRes, Nat.not_lt.2 hl, hfr]
    refine vc_y rfl rfl (y_mv rfl) ?_
    refine vc_y rfl rfl (y_ext rfl rfl) ?_
    refine vc_y rfl rfl (y_ext rfl rfl) ?_
    refine vc_y rfl rfl (y_ext rfl rfl) ?_
    refine vc_y rfl rfl (y_as rfl) ?_
    first
    | refine vc_e (e_st st 0 rfl rfl rfl rfl Tryd.sizeOf27 rfl rfl (by first | (right; assumption) | (left; simp)) ?_)
    | refine vc_e (e_st st 1 rfl rfl rfl rfl Tryd.sizeOf27 rfl rfl (by first | (right; assumption) | (left; simp)) ?_)
    | refine vc_e (e_st st 2 rfl rfl rfl rfl Tryd.sizeOf27 rfl rfl (by first | (right; assumption) | (left; simp)) ?_)
    | refine vc_e (e_st st 3 rfl rfl rfl rfl Tryd.sizeOf27 rfl rfl (by first | (right; assumption) | (left; simp)) ?_)
    | refine vc_e (e_st st 4 rfl rfl rfl rfl Tryd.sizeOf27 rfl rfl (by first | (right; assumption) | (left; simp)) ?_)
    | refine vc_e (e_st st 5 rfl rfl rfl rfl Tryd.sizeOf27 rfl rfl (by first | (right; assumption) | (left; simp)) ?_)
    | refine vc_e (e_st st 6 rfl rfl rfl rfl Tryd.sizeOf27 rfl rfl (by first | (right; assumption) | (left; simp)) ?_)
    | refine vc_e (e_st st 7 rfl rfl rfl rfl Tryd.sizeOf27 rfl rfl (by first | (right; assumption) | (left; simp)) ?_)
    | refine vc_e (e_st st 8 rfl rfl rfl rfl Tryd.sizeOf27 rfl rfl (by first | (right; assumption) | (left; simp)) ?_)
    intro w st; dsimp only [setNth, wr] at st
    first
    | refine vc_e (e_sts (vs := [_, _]) st 0 rfl rfl rfl rfl rfl Tryd.sizeOf29 rfl rfl (by first | (right; assumption) | (left; simp)) ?_)
    | refine vc_e (e_sts (vs := [_, _]) st 1 rfl rfl rfl rfl rfl Tryd.sizeOf29 rfl rfl (by first | (right; assumption) | (left; simp)) ?_)
    | refine vc_e (e_sts (vs := [_, _]) st 2 rfl rfl rfl rfl rfl Tryd.sizeOf29 rfl rfl (by first | (right; assumption) | (left; simp)) ?_)
    | refine vc_e (e_sts (vs := [_, _]) st 3 rfl rfl rfl rfl rfl Tryd.sizeOf29 rfl rfl (by first | (right; assumption) | (left; simp)) ?_)
    | refine vc_e (e_sts (vs := [_, _]) st 4 rfl rfl rfl rfl rfl Tryd.sizeOf29 rfl rfl (by first | (right; assumption) | (left; simp)) ?_)
    | refine vc_e (e_sts (vs := [_, _]) st 5 rfl rfl rfl rfl rfl Tryd.sizeOf29 rfl rfl (by first | (right; assumption) | (left; simp)) ?_)
    | refine vc_e (e_sts (vs := [_, _]) st 6 rfl rfl rfl rfl rfl Tryd.sizeOf29 rfl rfl (by first | (right; assumption) | (left; simp)) ?_)
    | refine vc_e (e_sts (vs := [_, _]) st 7 rfl rfl rfl rfl rfl Tryd.sizeOf29 rfl rfl (by first | (right; assumption) | (left; simp)) ?_)
    | refine vc_e (e_sts (vs := [_, _]) st 8 rfl rfl rfl rfl rfl Tryd.sizeOf29 rfl rfl (by first | (right; assumption) | (left; simp)) ?_)
    intro w st; dsimp only [setNth, wr] at st
    refine vc_end ?_
    refine vq_then ?_
    refine vc_keep [(2, _), (3, _), (4, _), (5, _)] ⟨rfl, rfl, rfl, rfl, trivial⟩ ?_
    refine vc_seq ?_
    refine vc_seq ?_
    refine vc_region ?_
    refine vc_y rfl rfl ((by first | exact y_ld st 0 rfl Tryd.isAgg27 rfl rfl | exact y_ld st 1 rfl Tryd.isAgg27 rfl rfl | exact y_ld st 2 rfl Tryd.isAgg27 rfl rfl | exact y_ld st 3 rfl Tryd.isAgg27 rfl rfl | exact y_ld st 4 rfl Tryd.isAgg27 rfl rfl | exact y_ld st 5 rfl Tryd.isAgg27 rfl rfl | exact y_ld st 6 rfl Tryd.isAgg27 rfl rfl | exact y_ld st 7 rfl Tryd.isAgg27 rfl rfl | exact y_ld st 8 rfl Tryd.isAgg27 rfl rfl)) ?_
    refine vc_y rfl rfl (y_nei rfl rfl) ?_
    refine vc_end ?_
    refine vq_then ?_
    refine vc_keep [(2, _), (3, _), (4, _), (5, _), (13, _)] ⟨rfl, rfl, rfl, rfl, rfl, trivial⟩ ?_
    refine vc_ifs rfl ?_ ?_
    · intro hc13
      try simp only [decide_eq_true_eq, decide_eq_false_iff_not, Bool.not_eq_true', Bool.not_eq_false', Bool.not_eq_true, Bool.not_eq_false, Int.not_lt, Int.not_le, Nat.not_lt, Nat.not_le, Bool.not_true, Bool.not_false, Bool.true_eq_false, Bool.false_eq_true] at hc13
      refine vc_seq ?_
      refine vc_noPan ?_
      refine vc_draw Tryd.mixed [(0, true), (1, true), (2, true), (3, false), (4, false), (5, false)] (fun w => St _ _ _ w) st (by kernel_rfl) (by repeat (first | exact okQ_noPan | exact okQ_body | exact okQ_bodyS | refine okQ_then ?_ | refine okQ_block ?_)) rfl (by kernel_rfl) ?_
      intro w cd; replace st := st.call0 cd; clear cd
      have hS := st
      refine vp_take rfl rfl rfl hS (fun w st => (by first | exact y_lda (vs := [_, _, _]) st 0 rfl Tryd.isAgg44 Tryd.sizeOf44 rfl rfl | exact y_lda (vs := [_, _, _]) st 1 rfl Tryd.isAgg44 Tryd.sizeOf44 rfl rfl | exact y_lda (vs := [_, _, _]) st 2 rfl Tryd.isAgg44 Tryd.sizeOf44 rfl rfl | exact y_lda (vs := [_, _, _]) st 3 rfl Tryd.isAgg44 Tryd.sizeOf44 rfl rfl | exact y_lda (vs := [_, _, _]) st 4 rfl Tryd.isAgg44 Tryd.sizeOf44 rfl rfl | exact y_lda (vs := [_, _, _]) st 5 rfl Tryd.isAgg44 Tryd.sizeOf44 rfl rfl | exact y_lda (vs := [_, _, _]) st 6 rfl Tryd.isAgg44 Tryd.sizeOf44 rfl rfl | exact y_lda (vs := [_, _, _]) st 7 rfl Tryd.isAgg44 Tryd.sizeOf44 rfl rfl | exact y_lda (vs := [_, _, _]) st 8 rfl Tryd.isAgg44 Tryd.sizeOf44 rfl rfl)) ?_
      refine vp_take rfl rfl rfl hS (fun w st => (by first | exact y_ld st 0 rfl Tryd.isAgg27 rfl rfl | exact y_ld st 1 rfl Tryd.isAgg27 rfl rfl | exact y_ld st 2 rfl Tryd.isAgg27 rfl rfl | exact y_ld st 3 rfl Tryd.isAgg27 rfl rfl | exact y_ld st 4 rfl Tryd.isAgg27 rfl rfl | exact y_ld st 5 rfl Tryd.isAgg27 rfl rfl | exact y_ld st 6 rfl Tryd.isAgg27 rfl rfl | exact y_ld st 7 rfl Tryd.isAgg27 rfl rfl | exact y_ld st 8 rfl Tryd.isAgg27 rfl rfl)) ?_
      refine vp_take rfl rfl rfl hS (fun w st => (by first | exact y_lda (vs := [_, _]) st 0 rfl Tryd.isAgg29 Tryd.sizeOf29 rfl rfl | exact y_lda (vs := [_, _]) st 1 rfl Tryd.isAgg29 Tryd.sizeOf29 rfl rfl | exact y_lda (vs := [_, _]) st 2 rfl Tryd.isAgg29 Tryd.sizeOf29 rfl rfl | exact y_lda (vs := [_, _]) st 3 rfl Tryd.isAgg29 Tryd.sizeOf29 rfl rfl | exact y_lda (vs := [_, _]) st 4 rfl Tryd.isAgg29 Tryd.sizeOf29 rfl rfl | exact y_lda (vs := [_, _]) st 5 rfl Tryd.isAgg29 Tryd.sizeOf29 rfl rfl | exact y_lda (vs := [_, _]) st 6 rfl Tryd.isAgg29 Tryd.sizeOf29 rfl rfl | exact y_lda (vs := [_, _]) st 7 rfl Tryd.isAgg29 Tryd.sizeOf29 rfl rfl | exact y_lda (vs := [_, _]) st 8 rfl Tryd.isAgg29 Tryd.sizeOf29 rfl rfl)) ?_
      first
      | refine vp_do rfl (e_sts (vs := [_, _, _]) st 0 rfl rfl rfl rfl rfl Tryd.sizeOf44 rfl rfl (by first | (right; assumption) | (left; simp)) ?_)
      | refine vp_do rfl (e_sts (vs := [_, _, _]) st 1 rfl rfl rfl rfl rfl Tryd.sizeOf44 rfl rfl (by first | (right; assumption) | (left; simp)) ?_)
      | refine vp_do rfl (e_sts (vs := [_, _, _]) st 2 rfl rfl rfl rfl rfl Tryd.sizeOf44 rfl rfl (by first | (right; assumption) | (left; simp)) ?_)
      | refine vp_do rfl (e_sts (vs := [_, _, _]) st 3 rfl rfl rfl rfl rfl Tryd.sizeOf44 rfl rfl (by first | (right; assumption) | (left; simp)) ?_)
      | refine vp_do rfl (e_sts (vs := [_, _, _]) st 4 rfl rfl rfl rfl rfl Tryd.sizeOf44 rfl rfl (by first | (right; assumption) | (left; simp)) ?_)
      | refine vp_do rfl (e_sts (vs := [_, _, _]) st 5 rfl rfl rfl rfl rfl Tryd.sizeOf44 rfl rfl (by first | (right; assumption) | (left; simp)) ?_)
      | refine vp_do rfl (e_sts (vs := [_, _, _]) st 6 rfl rfl rfl rfl rfl Tryd.sizeOf44 rfl rfl (by first | (right; assumption) | (left; simp)) ?_)
      | refine vp_do rfl (e_sts (vs := [_, _, _]) st 7 rfl rfl rfl rfl rfl Tryd.sizeOf44 rfl rfl (by first | (right; assumption) | (left; simp)) ?_)
      | refine vp_do rfl (e_sts (vs := [_, _, _]) st 8 rfl rfl rfl rfl rfl Tryd.sizeOf44 rfl rfl (by first | (right; assumption) | (left; simp)) ?_)
      intro w st; dsimp only [setNth, wr] at st
      refine vp_next (by first | exact st | exact st.drop (by repeat (first | exact List.Sublist.slnil | apply List.Sublist.cons_cons | apply List.Sublist.cons))) ?_; intro hS
      first
      | refine vp_do rfl (e_st st 0 rfl rfl rfl rfl Tryd.sizeOf27 rfl rfl (by first | (right; assumption) | (left; simp)) ?_)
      | refine vp_do rfl (e_st st 1 rfl rfl rfl rfl Tryd.sizeOf27 rfl rfl (by first | (right; assumption) | (left; simp)) ?_)
      | refine vp_do rfl (e_st st 2 rfl rfl rfl rfl Tryd.sizeOf27 rfl rfl (by first | (right; assumption) | (left; simp)) ?_)
      | refine vp_do rfl (e_st st 3 rfl rfl rfl rfl Tryd.sizeOf27 rfl rfl (by first | (right; assumption) | (left; simp)) ?_)
      | refine vp_do rfl (e_st st 4 rfl rfl rfl rfl Tryd.sizeOf27 rfl rfl (by first | (right; assumption) | (left; simp)) ?_)
      | refine vp_do rfl (e_st st 5 rfl rfl rfl rfl Tryd.sizeOf27 rfl rfl (by first | (right; assumption) | (left; simp)) ?_)
      | refine vp_do rfl (e_st st 6 rfl rfl rfl rfl Tryd.sizeOf27 rfl rfl (by first | (right; assumption) | (left; simp)) ?_)
      | refine vp_do rfl (e_st st 7 rfl rfl rfl rfl Tryd.sizeOf27 rfl rfl (by first | (right; assumption) | (left; simp)) ?_)
      | refine vp_do rfl (e_st st 8 rfl rfl rfl rfl Tryd.sizeOf27 rfl rfl (by first | (right; assumption) | (left; simp)) ?_)
      intro w st; dsimp only [setNth, wr] at st
      refine vp_next (by first | exact st | exact st.drop (by repeat (first | exact List.Sublist.slnil | apply List.Sublist.cons_cons | apply List.Sublist.cons))) ?_; intro hS
      first
      | refine vp_do rfl (e_sts (vs := [_, _]) st 0 rfl rfl rfl rfl rfl Tryd.sizeOf29 rfl rfl (by first | (right; assumption) | (left; simp)) ?_)
      | refine vp_do rfl (e_sts (vs := [_, _]) st 1 rfl rfl rfl rfl rfl Tryd.sizeOf29 rfl rfl (by first | (right; assumption) | (left; simp)) ?_)
      | refine vp_do rfl (e_sts (vs := [_, _]) st 2 rfl rfl rfl rfl rfl Tryd.sizeOf29 rfl rfl (by first | (right; assumption) | (left; simp)) ?_)
      | refine vp_do rfl (e_sts (vs := [_, _]) st 3 rfl rfl rfl rfl rfl Tryd.sizeOf29 rfl rfl (by first | (right; assumption) | (left; simp)) ?_)
      | refine vp_do rfl (e_sts (vs := [_, _]) st 4 rfl rfl rfl rfl rfl Tryd.sizeOf29 rfl rfl (by first | (right; assumption) | (left; simp)) ?_)
      | refine vp_do rfl (e_sts (vs := [_, _]) st 5 rfl rfl rfl rfl rfl Tryd.sizeOf29 rfl rfl (by first | (right; assumption) | (left; simp)) ?_)
      | refine vp_do rfl (e_sts (vs := [_, _]) st 6 rfl rfl rfl rfl rfl Tryd.sizeOf29 rfl rfl (by first | (right; assumption) | (left; simp)) ?_)
      | refine vp_do rfl (e_sts (vs := [_, _]) st 7 rfl rfl rfl rfl rfl Tryd.sizeOf29 rfl rfl (by first | (right; assumption) | (left; simp)) ?_)
      | refine vp_do rfl (e_sts (vs := [_, _]) st 8 rfl rfl rfl rfl rfl Tryd.sizeOf29 rfl rfl (by first | (right; assumption) | (left; simp)) ?_)
      intro w st; dsimp only [setNth, wr] at st
      refine vp_next (by first | exact st | exact st.drop (by repeat (first | exact List.Sublist.slnil | apply List.Sublist.cons_cons | apply List.Sublist.cons))) ?_; intro hS
      refine vp_end ?_
      refine vq_noPan ?_
      refine vq_then ?_
      refine vc_keep [(2, _), (3, _), (4, _)] ⟨rfl, rfl, rfl, trivial⟩ ?_
      refine vc_ret ?_
      refine vq_then_ret ?_
      refine vqd_post (.inl rfl) (results3 st Tryd.results16 (.cell 2 rfl rfl Tryd.isAgg44 Tryd.sizeOf44) (.cell1 1 rfl rfl Tryd.isAgg27 rfl) (.cell 0 rfl rfl Tryd.isAgg29 Tryd.sizeOf29)) ?_
      refine ⟨_, rfl, st.chg, ?_⟩
      rw [hpr]
      exact ⟨_, hp_none _ _, rfl⟩
    · intro hc13
      exact absurd hc13 (by decide)
  · replace st := st.pnew cw hn
    have hpr : parseRes s = match progP c.e (c.ts.length + 1) c.ts with | .error f => (pg0, 30, f.1, f.2) | .ok p => (p, 0, 0, 0) := by
      unfold parseRes; rw [if_neg (by omega), hfr, hn.e, hn.ts]
      try rfl
    refine vc_y rfl rfl (y_mv rfl) ?_
    refine vc_y rfl rfl (y_ext rfl rfl) ?_
    refine vc_y rfl rfl (y_ext rfl rfl) ?_
    refine vc_y rfl rfl (y_ext rfl rfl) ?_
    refine vc_y rfl rfl (y_as rfl) ?_
    first
    | refine vc_e (e_st st 0 rfl rfl rfl rfl Tryd.sizeOf27 rfl rfl (by first | (right; assumption) | (left; simp)) ?_)
    | refine vc_e (e_st st 1 rfl rfl rfl rfl Tryd.sizeOf27 rfl rfl (by first | (right; assumption) | (left; simp)) ?_)
    | refine vc_e (e_st st 2 rfl rfl rfl rfl Tryd.sizeOf27 rfl rfl (by first | (right; assumption) | (left; simp)) ?_)
    | refine vc_e (e_st st 3 rfl rfl rfl rfl Tryd.sizeOf27 rfl rfl (by first | (right; assumption) | (left; simp)) ?_)
    | refine vc_e (e_st st 4 rfl rfl rfl rfl Tryd.sizeOf27 rfl rfl (by first | (right; assumption) | (left; simp)) ?_)
    | refine vc_e (e_st st 5 rfl rfl rfl rfl Tryd.sizeOf27 rfl rfl (by first | (right; assumption) | (left; simp)) ?_)
    | refine vc_e (e_st st 6 rfl rfl rfl rfl Tryd.sizeOf27 rfl rfl (by first | (right; assumption) | (left; simp)) ?_)
    | refine vc_e (e_st st 7 rfl rfl rfl rfl Tryd.sizeOf27 rfl rfl (by first | (right; assumption) | (left; simp)) ?_)
    | refine vc_e (e_st st 8 rfl rfl rfl rfl Tryd.sizeOf27 rfl rfl (by first | (right; assumption) | (left; simp)) ?_)
    intro w st; dsimp only [setNth, wr] at st
    first
    | refine vc_e (e_sts (vs := [_, _]) st 0 rfl rfl rfl rfl rfl Tryd.sizeOf29 rfl rfl (by first | (right; assumption) | (left; simp)) ?_)
    | refine vc_e (e_sts (vs := [_, _]) st 1 rfl rfl rfl rfl rfl Tryd.sizeOf29 rfl rfl (by first | (right; assumption) | (left; simp)) ?_)
    | refine vc_e (e_sts (vs := [_, _]) st 2 rfl rfl rfl rfl rfl Tryd.sizeOf29 rfl rfl (by first | (right; assumption) | (left; simp)) ?_)
    | refine vc_e (e_sts (vs := [_, _]) st 3 rfl rfl rfl rfl rfl Tryd.sizeOf29 rfl rfl (by first | (right; assumption) | (left; simp)) ?_)
    | refine vc_e (e_sts (vs := [_, _]) st 4 rfl rfl rfl rfl rfl Tryd.sizeOf29 rfl rfl (by first | (right; assumption) | (left; simp)) ?_)
    | refine vc_e (e_sts (vs := [_, _]) st 5 rfl rfl rfl rfl rfl Tryd.sizeOf29 rfl rfl (by first | (right; assumption) | (left; simp)) ?_)
    | refine vc_e (e_sts (vs := [_, _]) st 6 rfl rfl rfl rfl rfl Tryd.sizeOf29 rfl rfl (by first | (right; assumption) | (left; simp)) ?_)
    | refine vc_e (e_sts (vs := [_, _]) st 7 rfl rfl rfl rfl rfl Tryd.sizeOf29 rfl rfl (by first | (right; assumption) | (left; simp)) ?_)
    | refine vc_e (e_sts (vs := [_, _]) st 8 rfl rfl rfl rfl rfl Tryd.sizeOf29 rfl rfl (by first | (right; assumption) | (left; simp)) ?_)
    intro w st; dsimp only [setNth, wr] at st
    refine vc_end ?_
    refine vq_then ?_
    refine vc_keep [(2, _), (3, _), (4, _), (5, _)] ⟨rfl, rfl, rfl, rfl, trivial⟩ ?_
    refine vc_seq ?_
    refine vc_seq ?_
    refine vc_region ?_
    refine vc_y rfl rfl ((by first | exact y_ld st 0 rfl Tryd.isAgg27 rfl rfl | exact y_ld st 1 rfl Tryd.isAgg27 rfl rfl | exact y_ld st 2 rfl Tryd.isAgg27 rfl rfl | exact y_ld st 3 rfl Tryd.isAgg27 rfl rfl | exact y_ld st 4 rfl Tryd.isAgg27 rfl rfl | exact y_ld st 5 rfl Tryd.isAgg27 rfl rfl | exact y_ld st 6 rfl Tryd.isAgg27 rfl rfl | exact y_ld st 7 rfl Tryd.isAgg27 rfl rfl | exact y_ld st 8 rfl Tryd.isAgg27 rfl rfl)) ?_
    refine vc_y rfl rfl (y_nei rfl rfl) ?_
    refine vc_end ?_
    refine vq_then ?_
    refine vc_keep [(2, _), (3, _), (4, _), (5, _), (13, _)] ⟨rfl, rfl, rfl, rfl, rfl, trivial⟩ ?_
    refine vc_ifs rfl ?_ ?_
    · intro hc13
      exact absurd hc13 (by decide)
    · intro hc13
      try simp only [decide_eq_true_eq, decide_eq_false_iff_not, Bool.not_eq_true', Bool.not_eq_false', Bool.not_eq_true, Bool.not_eq_false, Int.not_lt, Int.not_le, Nat.not_lt, Nat.not_le, Bool.not_true, Bool.not_false, Bool.true_eq_false, Bool.false_eq_true] at hc13
      refine vc_code_skip ?_
      refine vq_then ?_
      refine vc_keep [(2, _), (3, _), (4, _), (5, _)] ⟨rfl, rfl, rfl, rfl, trivial⟩ ?_
      refine vc_seq ?_
      refine vc_region ?_
      refine vc_y rfl rfl (y_mf [] [_, _, _] rfl rfl) ?_
      refine vc_e (e_deferV rfl rfl rfl ?_)
      refine vc_end ?_
      refine vq_then ?_
      refine vc_keep [(2, _), (3, _), (4, _), (5, _)] ⟨rfl, rfl, rfl, rfl, trivial⟩ ?_
      refine vc_seq ?_
      refine vc_region ?_
      refine vc_y rfl rfl (y_mv rfl) ?_
      refine vc_e (e_callk [_] rfl rfl Tryd.call38 rfl (pprog_any c hn.R hn.g c.ts (List.suffix_refl _) _ (hn.ok (st.res (i := 1) rfl) (hsg.kept st.chg (by simp)) (st.res (i := 0) rfl) (Nat.lt_of_lt_of_le h0 hw1)) (st.res (i := 0) rfl) (c.ts.length + 1) (by omega)) (by
          rintro _ w' ⟨f, hf, rfl, ch⟩
          obtain ⟨o', ho'⟩ : ∃ o', w'.heap[c.pb]? = some o' := ⟨_, Array.getElem?_eq_getElem (Nat.lt_of_lt_of_le (Array.getElem?_eq_some_iff.1 (st.res (i := 0) rfl)).1 ch.size)⟩
          have st' := St.prs (b := c.pb) st 0 rfl ch (.inr (Nat.le_trans hw1 hn.le)) ho'
          dsimp only [setNth] at st'
          rw [show refV c f = .iface 65 (.agg #[.int .i64 (f.1 : Int), .int .i64 (f.2 : Int)]) by rw [refV, hn.R]]
          exact parse_pan (st'.res (i := 4) rfl) (st'.res (i := 3) rfl) (st'.res (i := 2) rfl) n23 n24 n34 hb2 hb3 hb4 st'.chg (by rw [hpr, hf]) rfl rfl rfl) ?_)
      rintro _ w ⟨q, hq, cw, os, ol, ot, cs, cl, ct, Sq, rfl, hT, hN⟩
      have hw2 := st.chg.size
      obtain ⟨o', ho'⟩ : ∃ o', w.heap[c.pb]? = some o' := ⟨_, Array.getElem?_eq_getElem (Nat.lt_of_lt_of_le (Array.getElem?_eq_some_iff.1 (st.res (i := 0) rfl)).1 cw.size)⟩
      replace st := St.prsT (b := c.pb) st 0 rfl cw (.inr (Nat.le_trans hw1 hn.le)) ho' (holds_pg hT) hN.2
      dsimp only [setNth] at st
      refine vc_y rfl rfl (y_bld (.agg #[_, _]) [] rfl (fun w => by simp [Instr.build, go_sem] <;> repeat' constructor)) ?_
      first
      | refine vc_e (e_sts (vs := [_, _, _]) st 0 rfl rfl rfl rfl rfl Tryd.sizeOf44 rfl rfl (by first | (right; assumption) | (left; simp)) ?_)
      | refine vc_e (e_sts (vs := [_, _, _]) st 1 rfl rfl rfl rfl rfl Tryd.sizeOf44 rfl rfl (by first | (right; assumption) | (left; simp)) ?_)
      | refine vc_e (e_sts (vs := [_, _, _]) st 2 rfl rfl rfl rfl rfl Tryd.sizeOf44 rfl rfl (by first | (right; assumption) | (left; simp)) ?_)
      | refine vc_e (e_sts (vs := [_, _, _]) st 3 rfl rfl rfl rfl rfl Tryd.sizeOf44 rfl rfl (by first | (right; assumption) | (left; simp)) ?_)
      | refine vc_e (e_sts (vs := [_, _, _]) st 4 rfl rfl rfl rfl rfl Tryd.sizeOf44 rfl rfl (by first | (right; assumption) | (left; simp)) ?_)
      | refine vc_e (e_sts (vs := [_, _, _]) st 5 rfl rfl rfl rfl rfl Tryd.sizeOf44 rfl rfl (by first | (right; assumption) | (left; simp)) ?_)
      | refine vc_e (e_sts (vs := [_, _, _]) st 6 rfl rfl rfl rfl rfl Tryd.sizeOf44 rfl rfl (by first | (right; assumption) | (left; simp)) ?_)
      | refine vc_e (e_sts (vs := [_, _, _]) st 7 rfl rfl rfl rfl rfl Tryd.sizeOf44 rfl rfl (by first | (right; assumption) | (left; simp)) ?_)
      | refine vc_e (e_sts (vs := [_, _, _]) st 8 rfl rfl rfl rfl rfl Tryd.sizeOf44 rfl rfl (by first | (right; assumption) | (left; simp)) ?_)
      intro w st; dsimp only [setNth, wr] at st
      first
      | refine vc_e (e_st st 0 rfl rfl rfl rfl Tryd.sizeOf27 rfl rfl (by first | (right; assumption) | (left; simp)) ?_)
      | refine vc_e (e_st st 1 rfl rfl rfl rfl Tryd.sizeOf27 rfl rfl (by first | (right; assumption) | (left; simp)) ?_)
      | refine vc_e (e_st st 2 rfl rfl rfl rfl Tryd.sizeOf27 rfl rfl (by first | (right; assumption) | (left; simp)) ?_)
      | refine vc_e (e_st st 3 rfl rfl rfl rfl Tryd.sizeOf27 rfl rfl (by first | (right; assumption) | (left; simp)) ?_)
      | refine vc_e (e_st st 4 rfl rfl rfl rfl Tryd.sizeOf27 rfl rfl (by first | (right; assumption) | (left; simp)) ?_)
      | refine vc_e (e_st st 5 rfl rfl rfl rfl Tryd.sizeOf27 rfl rfl (by first | (right; assumption) | (left; simp)) ?_)
      | refine vc_e (e_st st 6 rfl rfl rfl rfl Tryd.sizeOf27 rfl rfl (by first | (right; assumption) | (left; simp)) ?_)
      | refine vc_e (e_st st 7 rfl rfl rfl rfl Tryd.sizeOf27 rfl rfl (by first | (right; assumption) | (left; simp)) ?_)
      | refine vc_e (e_st st 8 rfl rfl rfl rfl Tryd.sizeOf27 rfl rfl (by first | (right; assumption) | (left; simp)) ?_)
      intro w st; dsimp only [setNth, wr] at st
      first
      | refine vc_e (e_sts (vs := [_, _]) st 0 rfl rfl rfl rfl rfl Tryd.sizeOf29 rfl rfl (by first | (right; assumption) | (left; simp)) ?_)
      | refine vc_e (e_sts (vs := [_, _]) st 1 rfl rfl rfl rfl rfl Tryd.sizeOf29 rfl rfl (by first | (right; assumption) | (left; simp)) ?_)
      | refine vc_e (e_sts (vs := [_, _]) st 2 rfl rfl rfl rfl rfl Tryd.sizeOf29 rfl rfl (by first | (right; assumption) | (left; simp)) ?_)
      | refine vc_e (e_sts (vs := [_, _]) st 3 rfl rfl rfl rfl rfl Tryd.sizeOf29 rfl rfl (by first | (right; assumption) | (left; simp)) ?_)
      | refine vc_e (e_sts (vs := [_, _]) st 4 rfl rfl rfl rfl rfl Tryd.sizeOf29 rfl rfl (by first | (right; assumption) | (left; simp)) ?_)
      | refine vc_e (e_sts (vs := [_, _]) st 5 rfl rfl rfl rfl rfl Tryd.sizeOf29 rfl rfl (by first | (right; assumption) | (left; simp)) ?_)
      | refine vc_e (e_sts (vs := [_, _]) st 6 rfl rfl rfl rfl rfl Tryd.sizeOf29 rfl rfl (by first | (right; assumption) | (left; simp)) ?_)
      | refine vc_e (e_sts (vs := [_, _]) st 7 rfl rfl rfl rfl rfl Tryd.sizeOf29 rfl rfl (by first | (right; assumption) | (left; simp)) ?_)
      | refine vc_e (e_sts (vs := [_, _]) st 8 rfl rfl rfl rfl rfl Tryd.sizeOf29 rfl rfl (by first | (right; assumption) | (left; simp)) ?_)
      intro w st; dsimp only [setNth, wr] at st
      refine vc_end ?_
      refine vq_then ?_
      refine vc_keep [(2, _), (3, _), (4, _)] ⟨rfl, rfl, rfl, trivial⟩ ?_
      refine vc_ret ?_
      refine vqd_ret (.inl rfl) Tryd.call37 (parse_idle [.pointer (some ⟨b2, 0, none⟩), .pointer (some ⟨b3, 0, none⟩), .pointer (some ⟨b4, 0, none⟩)] rfl _) (fun w2 e2 => ?_)
      subst e2
      refine ⟨_, results3 st Tryd.results16 (.cell 5 rfl rfl Tryd.isAgg44 Tryd.sizeOf44) (.cell1 4 rfl rfl Tryd.isAgg27 rfl) (.cell 3 rfl rfl Tryd.isAgg29 Tryd.sizeOf29), _, rfl, st.chg, ?_⟩
      rw [hpr, hq]
      dsimp only
      exact ⟨_, ⟨os, ol, ot, cs, cl, ct, Sq, rfl, (st.res (i := 0) rfl).1, hN.le hw2⟩, rfl⟩

end Go.Proofs.YtggnfanphcaamaaDoor


/- What is read of a tree that lies in rows. -/
namespace Sx
open Go Go.RowKit
set_option linter.unusedVariables false
variable {w : World} {S : Nat → Prop}
theorem ExRow.gets {oa : Option Addr} {es : List Ex} (h : ExRow w S oa es) (hne : 0 < es.length) : ∃ b off, oa = some ⟨b, off, none⟩ ∧ ∀ j x, es[j]? = some x → ∃ ok ck, (∀ i v, (exC x ok ck)[i]? = some v → w.cell? ⟨b, off + j * 6 + i, none⟩ = some v) ∧ ExRow w S ok x.kids := by
  obtain ⟨vs, hr, hk⟩ := h
  rcases hr with h0 | ⟨b, off, e, -, -, hc⟩
  · omega
  · refine ⟨b, off, e, fun j x hx => ?_⟩
    have hj : j < es.length := (List.getElem?_eq_some_iff.1 hx).1
    have hv := hk j x hx
    obtain ⟨-, hcell⟩ := hc j hj
    generalize vs j = l at hv hcell
    cases hv with
    | mk vs' hr' hk' => exact ⟨_, _, hcell, _, hr', hk'⟩
theorem SmRow.gets {oa : Option Addr} {es : List Sm} (h : SmRow w S oa es) (hne : 0 < es.length) : ∃ b off, oa = some ⟨b, off, none⟩ ∧ ∀ j x, es[j]? = some x → ∃ oe ob ol ce cb cl, (∀ i v, (smC x oe ob ol ce cb cl)[i]? = some v → w.cell? ⟨b, off + j * 7 + i, none⟩ = some v) ∧ ExRow w S oe x.e ∧ SmRow w S ob x.body ∧ SmRow w S ol x.els := by
  obtain ⟨vs, hr, hk⟩ := h
  rcases hr with h0 | ⟨b, off, e, -, -, hc⟩
  · omega
  · refine ⟨b, off, e, fun j x hx => ?_⟩
    have hj : j < es.length := (List.getElem?_eq_some_iff.1 hx).1
    have hv := hk j x hx
    obtain ⟨-, hcell⟩ := hc j hj
    generalize vs j = l at hv hcell
    cases hv with
    | mk vb vl he hb hbk hl hlk => exact ⟨_, _, _, _, _, _, hcell, he, ⟨_, hb, hbk⟩, _, hl, hlk⟩
theorem ThRow.gets {oa : Option Addr} {es : List Th} (h : ThRow w S oa es) (hne : 0 < es.length) : ∃ b off, oa = some ⟨b, off, none⟩ ∧ ∀ j x, es[j]? = some x → ∃ ol ob cl cb, (∀ i v, (thC x ol ob cl cb)[i]? = some v → w.cell? ⟨b, off + j * 4 + i, none⟩ = some v) ∧ DcRow w S ol x.locals ∧ SmRow w S ob x.body := by
  obtain ⟨vs, hr, hk⟩ := h
  rcases hr with h0 | ⟨b, off, e, -, -, hc⟩
  · omega
  · refine ⟨b, off, e, fun j x hx => ?_⟩
    have hj : j < es.length := (List.getElem?_eq_some_iff.1 hx).1
    obtain ⟨ol, cl, ob, cb, hl, hd, hs⟩ := hk j x hx
    obtain ⟨-, hcell⟩ := hc j hj
    rw [hl] at hcell
    exact ⟨ol, ob, cl, cb, hcell, hd, hs⟩
theorem DcRow.gets {oa : Option Addr} {ds : List Dc} (h : DcRow w S oa ds) (hne : 0 < ds.length) : ∃ b off, oa = some ⟨b, off, none⟩ ∧ ∀ j x, ds[j]? = some x → ∀ i v, (dcL x)[i]? = some v → w.cell? ⟨b, off + j * 3 + i, none⟩ = some v := by
  rcases h with h0 | ⟨b, off, e, -, -, hc⟩
  · omega
  · refine ⟨b, off, e, fun j x hx => ?_⟩
    have hj : j < ds.length := (List.getElem?_eq_some_iff.1 hx).1
    obtain ⟨-, hcell⟩ := hc j hj
    simpa only [List.getD, hx, Option.getD_some] using hcell
theorem pgS_rows {tE tS tD tT : Nat} {p : Pg} {os ol ot : Option Addr} {cs cl ct : Nat} {B : List Nat} (h : PgS tE tS tD tT w p (pgC p os ol ot cs cl ct) B) : DcRow w (fun _ => True) os p.shared ∧ DcRow w (fun _ => True) ol p.locks ∧ ThRow w (fun _ => True) ot p.threads := by
  obtain ⟨os', cs', ol', cl', ot', ct', e, h1, h2, h3⟩ := h.toV (T := fun _ => True) (fun _ _ => trivial)
  simp only [pgC, List.cons.injEq, Value.slice.injEq, and_true, true_and] at e
  obtain ⟨⟨rfl, -⟩, ⟨rfl, -⟩, rfl, -⟩ := e
  exact ⟨h1, h2, h3⟩
end Sx


/- The two texts that say whether the parser lives. -/
namespace ParS
open LexS Sx Go.RowKit Go
def liveS : List UInt8 := [115, 104, 97, 114, 101, 100, 32, 120, 32, 61, 32, 45, 51, 59, 32, 116, 104, 114, 101, 97, 100, 32, 97, 32, 123, 32, 120, 32, 61, 32, 49, 32, 43, 32, 50, 32, 42, 32, 120, 59, 32, 125]
def deadS : List UInt8 := [116, 104, 114, 101, 97, 100, 32, 97, 32, 123, 32, 120, 32, 61, 32, 49, 32, 125]
set_option maxRecDepth 100000
abbrev liveQ : Pg := ⟨[⟨[120], -3, 7⟩], [], [⟨[97], [], [.mk 1 [120] [] [.mk 4 1 0 [] [.mk 1 0 1 [] [] 30, .mk 4 3 0 [] [.mk 1 0 2 [] [] 34, .mk 2 0 0 [120] [] 38] 36] 32] [] [] 26], 22⟩]⟩
theorem live_res : parseRes liveS = (liveQ, 0, 0, 0) := by kernel_rfl
theorem dead_res : parseRes deadS = (pg0, 30, 17, 2) := by kernel_rfl

end ParS


namespace Go.Proofs.YtggnfanphcaamaaDoor
open Go.RowKit Sx LexS ParS
set_option linter.unusedVariables false
set_option linter.unusedSimpArgs false
theorem fieldsF : (Tryd.prog.fieldsOf 29).toList.map (fun f => (f.name, f.type, f.offset)) = [("At", 3, 0), ("Rule", 3, 1)] := by kernel_rfl
theorem eqFieldsF (p q r s : Int) (w : World) : (Op.eqFields 9999 [.int .i64 p, .int .i64 q].toArray [.int .i64 r, .int .i64 s].toArray (Tryd.prog.fieldsOf 29).toList).run Tryd.prog w = .ok (decide (p = r) && decide (q = s)) w := by
  have h := fieldsF
  match hf : (Tryd.prog.fieldsOf 29).toList with
  | [a, b] =>
    rw [hf] at h
    simp only [List.map_cons, List.map_nil, List.cons.injEq, Prod.mk.injEq, and_true] at h
    obtain ⟨⟨a1, a2, a3⟩, b1, b2, b3⟩ := h
    have e1 : ∀ (x y : Int) w, (part 3 [.int .i64 x, .int .i64 y].toArray 0).run Tryd.prog w = .ok (.int .i64 x) w := fun x y w => run_part1 Tryd.isAgg3 rfl
    have e2 : ∀ (x y : Int) w, (part 3 [.int .i64 x, .int .i64 y].toArray 1).run Tryd.prog w = .ok (.int .i64 y) w := fun x y w => run_part1 Tryd.isAgg3 rfl
    have r1 := run_equalIn_int (P := Tryd.prog) w 9998 3 .i64 .i64 p r Tryd.underlying3
    have r2 := run_equalIn_int (P := Tryd.prog) w 9998 3 .i64 .i64 q s Tryd.underlying3
    simp only [Op.eqFields, a1, a2, a3, b1, b2, b3, Sem.run_bind, Sem.run_ite, e1, e2, Result.andThen_ok]
    simp only [ne_eq, String.reduceEq, not_false_eq_true, if_true, Sem.run_bind, Sem.run_ite, e1, e2, r1, r2, Result.andThen_ok, Sem.run_pure]
    by_cases h1 : p = r
    · by_cases h2 : q = s <;> simp [h1, h2]
    · simp [h1]
  | [] => rw [hf] at h; simp at h
  | [_] => rw [hf] at h; simp at h
  | _ :: _ :: _ :: _ => rw [hf] at h; simp at h
section
variable {n : Fr} {kn : Kn} {w : World} {d ty : Nat} {pos : String} {aft : Array Edge} {g : Option (Nat × Bool)}
theorem y_neF {U : Nat} {x y : Operand} {p q r s : Int} (hx : evO kn x = some (.agg [.int .i64 p, .int .i64 q].toArray)) (hy : evO kn y = some (.agg [.int .i64 r, .int .i64 s].toArray)) : Y Tryd.prog n kn w ⟨some d, .binOp .neq 29 x y U, ty, pos, aft, g⟩ (.bool (!(decide (p = r) && decide (q = s)))) :=
  y_bo hx hy (by
    have h1 := run_eqGuard_agg (P := Tryd.prog) w .neq 29 x y [.int .i64 p, .int .i64 q].toArray [.int .i64 r, .int .i64 s].toArray (by kernel_rfl)
    have h2 := run_neq_struct (P := Tryd.prog) w 29 [.int .i64 p, .int .i64 q].toArray [.int .i64 r, .int .i64 s].toArray
    rw [run_equalIn_agg w 9999 29 _ _ (by kernel_rfl) (by kernel_rfl), eqFieldsF] at h2
    simp only [Sem.run_bind, h1, Result.andThen_ok]
    have h3 : (binOp .neq 29 (.agg [.int .i64 p, .int .i64 q].toArray) (.agg [.int .i64 r, .int .i64 s].toArray)).run Tryd.prog w = .ok (.bool (!(decide (p = r) && decide (q = s)))) w := by rw [h2]; rfl
    exact h3)
end

set_option maxHeartbeats 2000000 in
theorem lives_any (w : World) (hsg : SigAt 0 w) : Ret Tryd.prog 10 [] w fun v w' => v = .bool true ∧ Chg [] w w' := by
  refine ret_of [] Tryd.func10 rfl Tryd.ntmps10 rfl ?_
  have st := St.init w []
  obtain ⟨w0, rfl⟩ : ∃ w0, w0 = w := ⟨_, rfl⟩
  refine vc_seq ?_
  refine vc_region ?_
  refine vc_y rfl rfl (y_as rfl) ?_
  refine vc_end ?_
  refine vq_then ?_
  refine vc_keep [] trivial ?_
  refine vc_seq ?_
  refine vc_region ?_
  refine vc_e (e_call [_] rfl rfl Tryd.call16 rfl (parse_any liveS _ (hsg.kept st.chg (by simp))) ?_)
  rintro _ w h
  rw [ParsePost, live_res] at h
  obtain ⟨cw, _, ⟨os, ol, ot, cs, cl, ct, Sq, rfl, hT, hN⟩, rfl⟩ := h
  replace st := st.pushR cw (holds_pg hT) hN.2
  refine vc_y rfl rfl (y_mv rfl) ?_
  refine vc_y rfl rfl (y_ext rfl rfl) ?_
  refine vc_y rfl rfl (y_ext rfl rfl) ?_
  refine vc_y rfl rfl (y_ext rfl rfl) ?_
  refine vc_e (e_al (l := [_, _, _]) st rfl rfl Tryd.zeroValue44 rfl ?_)
  intro b1 w hb1 st
  refine vc_e (e_al (l := [_, _]) st rfl rfl Tryd.zeroValue29 rfl ?_)
  intro b3 w hb3 st
  first
  | refine vc_e (e_sts (vs := [_, _, _]) st 0 rfl rfl rfl rfl rfl Tryd.sizeOf44 rfl rfl (by first | (right; assumption) | (left; simp)) ?_)
  | refine vc_e (e_sts (vs := [_, _, _]) st 1 rfl rfl rfl rfl rfl Tryd.sizeOf44 rfl rfl (by first | (right; assumption) | (left; simp)) ?_)
  | refine vc_e (e_sts (vs := [_, _, _]) st 2 rfl rfl rfl rfl rfl Tryd.sizeOf44 rfl rfl (by first | (right; assumption) | (left; simp)) ?_)
  | refine vc_e (e_sts (vs := [_, _, _]) st 3 rfl rfl rfl rfl rfl Tryd.sizeOf44 rfl rfl (by first | (right; assumption) | (left; simp)) ?_)
  | refine vc_e (e_sts (vs := [_, _, _]) st 4 rfl rfl rfl rfl rfl Tryd.sizeOf44 rfl rfl (by first | (right; assumption) | (left; simp)) ?_)
  | refine vc_e (e_sts (vs := [_, _, _]) st 5 rfl rfl rfl rfl rfl Tryd.sizeOf44 rfl rfl (by first | (right; assumption) | (left; simp)) ?_)
  | refine vc_e (e_sts (vs := [_, _, _]) st 6 rfl rfl rfl rfl rfl Tryd.sizeOf44 rfl rfl (by first | (right; assumption) | (left; simp)) ?_)
  | refine vc_e (e_sts (vs := [_, _, _]) st 7 rfl rfl rfl rfl rfl Tryd.sizeOf44 rfl rfl (by first | (right; assumption) | (left; simp)) ?_)
  | refine vc_e (e_sts (vs := [_, _, _]) st 8 rfl rfl rfl rfl rfl Tryd.sizeOf44 rfl rfl (by first | (right; assumption) | (left; simp)) ?_)
  intro w st; dsimp only [setNth, wr] at st
  refine vc_y rfl rfl (y_as rfl) ?_
  first
  | refine vc_e (e_sts (vs := [_, _]) st 0 rfl rfl rfl rfl rfl Tryd.sizeOf29 rfl rfl (by first | (right; assumption) | (left; simp)) ?_)
  | refine vc_e (e_sts (vs := [_, _]) st 1 rfl rfl rfl rfl rfl Tryd.sizeOf29 rfl rfl (by first | (right; assumption) | (left; simp)) ?_)
  | refine vc_e (e_sts (vs := [_, _]) st 2 rfl rfl rfl rfl rfl Tryd.sizeOf29 rfl rfl (by first | (right; assumption) | (left; simp)) ?_)
  | refine vc_e (e_sts (vs := [_, _]) st 3 rfl rfl rfl rfl rfl Tryd.sizeOf29 rfl rfl (by first | (right; assumption) | (left; simp)) ?_)
  | refine vc_e (e_sts (vs := [_, _]) st 4 rfl rfl rfl rfl rfl Tryd.sizeOf29 rfl rfl (by first | (right; assumption) | (left; simp)) ?_)
  | refine vc_e (e_sts (vs := [_, _]) st 5 rfl rfl rfl rfl rfl Tryd.sizeOf29 rfl rfl (by first | (right; assumption) | (left; simp)) ?_)
  | refine vc_e (e_sts (vs := [_, _]) st 6 rfl rfl rfl rfl rfl Tryd.sizeOf29 rfl rfl (by first | (right; assumption) | (left; simp)) ?_)
  | refine vc_e (e_sts (vs := [_, _]) st 7 rfl rfl rfl rfl rfl Tryd.sizeOf29 rfl rfl (by first | (right; assumption) | (left; simp)) ?_)
  | refine vc_e (e_sts (vs := [_, _]) st 8 rfl rfl rfl rfl rfl Tryd.sizeOf29 rfl rfl (by first | (right; assumption) | (left; simp)) ?_)
  intro w st; dsimp only [setNth, wr] at st
  refine vc_end ?_
  refine vq_then ?_
  refine vc_keep [(1, _), (2, _)] ⟨rfl, rfl, trivial⟩ ?_
  refine vc_seq ?_
  refine vc_region ?_
  refine vc_e (e_call [_] rfl rfl Tryd.call16 rfl (parse_any deadS _ (hsg.kept st.chg (by simp))) ?_)
  rintro _ w h
  rw [ParsePost, dead_res] at h
  obtain ⟨cw, _, ⟨os2, ol2, ot2, cs2, cl2, ct2, Sq2, rfl, -, -⟩, rfl⟩ := h
  replace st := st.call0 cw
  refine vc_y rfl rfl (y_mv rfl) ?_
  refine vc_y rfl rfl (y_ext rfl rfl) ?_
  refine vc_y rfl rfl (y_ext rfl rfl) ?_
  refine vc_y rfl rfl (y_ext rfl rfl) ?_
  refine vc_e (e_al (l := [_, _, _]) st rfl rfl Tryd.zeroValue44 rfl ?_)
  intro b4 w hb4 st
  refine vc_e (e_al (l := [_, _]) st rfl rfl Tryd.zeroValue29 rfl ?_)
  intro b6 w hb6 st
  first
  | refine vc_e (e_sts (vs := [_, _, _]) st 0 rfl rfl rfl rfl rfl Tryd.sizeOf44 rfl rfl (by first | (right; assumption) | (left; simp)) ?_)
  | refine vc_e (e_sts (vs := [_, _, _]) st 1 rfl rfl rfl rfl rfl Tryd.sizeOf44 rfl rfl (by first | (right; assumption) | (left; simp)) ?_)
  | refine vc_e (e_sts (vs := [_, _, _]) st 2 rfl rfl rfl rfl rfl Tryd.sizeOf44 rfl rfl (by first | (right; assumption) | (left; simp)) ?_)
  | refine vc_e (e_sts (vs := [_, _, _]) st 3 rfl rfl rfl rfl rfl Tryd.sizeOf44 rfl rfl (by first | (right; assumption) | (left; simp)) ?_)
  | refine vc_e (e_sts (vs := [_, _, _]) st 4 rfl rfl rfl rfl rfl Tryd.sizeOf44 rfl rfl (by first | (right; assumption) | (left; simp)) ?_)
  | refine vc_e (e_sts (vs := [_, _, _]) st 5 rfl rfl rfl rfl rfl Tryd.sizeOf44 rfl rfl (by first | (right; assumption) | (left; simp)) ?_)
  | refine vc_e (e_sts (vs := [_, _, _]) st 6 rfl rfl rfl rfl rfl Tryd.sizeOf44 rfl rfl (by first | (right; assumption) | (left; simp)) ?_)
  | refine vc_e (e_sts (vs := [_, _, _]) st 7 rfl rfl rfl rfl rfl Tryd.sizeOf44 rfl rfl (by first | (right; assumption) | (left; simp)) ?_)
  | refine vc_e (e_sts (vs := [_, _, _]) st 8 rfl rfl rfl rfl rfl Tryd.sizeOf44 rfl rfl (by first | (right; assumption) | (left; simp)) ?_)
  intro w st; dsimp only [setNth, wr] at st
  refine vc_y rfl rfl (y_as rfl) ?_
  first
  | refine vc_e (e_sts (vs := [_, _]) st 0 rfl rfl rfl rfl rfl Tryd.sizeOf29 rfl rfl (by first | (right; assumption) | (left; simp)) ?_)
  | refine vc_e (e_sts (vs := [_, _]) st 1 rfl rfl rfl rfl rfl Tryd.sizeOf29 rfl rfl (by first | (right; assumption) | (left; simp)) ?_)
  | refine vc_e (e_sts (vs := [_, _]) st 2 rfl rfl rfl rfl rfl Tryd.sizeOf29 rfl rfl (by first | (right; assumption) | (left; simp)) ?_)
  | refine vc_e (e_sts (vs := [_, _]) st 3 rfl rfl rfl rfl rfl Tryd.sizeOf29 rfl rfl (by first | (right; assumption) | (left; simp)) ?_)
  | refine vc_e (e_sts (vs := [_, _]) st 4 rfl rfl rfl rfl rfl Tryd.sizeOf29 rfl rfl (by first | (right; assumption) | (left; simp)) ?_)
  | refine vc_e (e_sts (vs := [_, _]) st 5 rfl rfl rfl rfl rfl Tryd.sizeOf29 rfl rfl (by first | (right; assumption) | (left; simp)) ?_)
  | refine vc_e (e_sts (vs := [_, _]) st 6 rfl rfl rfl rfl rfl Tryd.sizeOf29 rfl rfl (by first | (right; assumption) | (left; simp)) ?_)
  | refine vc_e (e_sts (vs := [_, _]) st 7 rfl rfl rfl rfl rfl Tryd.sizeOf29 rfl rfl (by first | (right; assumption) | (left; simp)) ?_)
  | refine vc_e (e_sts (vs := [_, _]) st 8 rfl rfl rfl rfl rfl Tryd.sizeOf29 rfl rfl (by first | (right; assumption) | (left; simp)) ?_)
  intro w st; dsimp only [setNth, wr] at st
  refine vc_end ?_
  refine vq_then ?_
  refine vc_keep [(1, _), (2, _), (5, _), (6, _)] ⟨rfl, rfl, rfl, rfl, trivial⟩ ?_
  refine vc_seq ?_
  refine vc_seq ?_
  refine vc_region ?_
  obtain ⟨hsh, -, hth⟩ := pgS_rows (st.res (i := 4) rfl).1
  obtain ⟨bs, fs, rfl, hds⟩ := DcRow.gets hsh (by decide)
  obtain ⟨bt, ft, rfl, hts⟩ := hth.gets (by decide)
  obtain ⟨_, ob, _, cb, hthc, -, hsm⟩ := hts 0 _ rfl
  obtain ⟨bb, fb, rfl, hss⟩ := hsm.gets (by decide)
  obtain ⟨oe, _, _, ce, _, _, hsc, hex, -⟩ := hss 0 _ rfl
  obtain ⟨be, fe, rfl, hes⟩ := hex.gets (by decide)
  obtain ⟨ok, ck, hec, hkd⟩ := hes 0 _ rfl
  obtain ⟨bk, fk, rfl, hks⟩ := hkd.gets (by decide)
  obtain ⟨_, _, hkc, -⟩ := hks 1 _ rfl
  refine vc_y rfl rfl (y_mv rfl) ?_
  refine vc_y rfl rfl (y_nei rfl rfl) ?_
  refine vc_e (e_mvb rfl rfl rfl ?_ ?_)
  · intro hg20
    exact absurd hg20 (by decide)
  · intro hg20
    try simp only [decide_eq_true_eq, decide_eq_false_iff_not, Bool.not_eq_true', Bool.not_eq_false', Bool.not_eq_true, Bool.not_eq_false, Int.not_lt, Int.not_le, Nat.not_lt, Nat.not_le, Bool.not_true, Bool.not_false, Bool.true_eq_false, Bool.false_eq_true] at hg20
    refine vc_y rfl rfl (y_mv rfl) ?_
    refine vc_y rfl rfl (y_nei rfl rfl) ?_
    refine vc_y rfl rfl (y_pickf rfl rfl) ?_
    refine vc_e (e_mvb rfl rfl rfl ?_ ?_)
    · intro hg24
      exact absurd hg24 (by decide)
    · intro hg24
      try simp only [decide_eq_true_eq, decide_eq_false_iff_not, Bool.not_eq_true', Bool.not_eq_false', Bool.not_eq_true, Bool.not_eq_false, Int.not_lt, Int.not_le, Nat.not_lt, Nat.not_le, Bool.not_true, Bool.not_false, Bool.true_eq_false, Bool.false_eq_true] at hg24
      refine vc_y rfl rfl ((by first | exact y_lda (vs := [_, _]) st 0 rfl Tryd.isAgg29 Tryd.sizeOf29 rfl rfl | exact y_lda (vs := [_, _]) st 1 rfl Tryd.isAgg29 Tryd.sizeOf29 rfl rfl | exact y_lda (vs := [_, _]) st 2 rfl Tryd.isAgg29 Tryd.sizeOf29 rfl rfl | exact y_lda (vs := [_, _]) st 3 rfl Tryd.isAgg29 Tryd.sizeOf29 rfl rfl | exact y_lda (vs := [_, _]) st 4 rfl Tryd.isAgg29 Tryd.sizeOf29 rfl rfl | exact y_lda (vs := [_, _]) st 5 rfl Tryd.isAgg29 Tryd.sizeOf29 rfl rfl | exact y_lda (vs := [_, _]) st 6 rfl Tryd.isAgg29 Tryd.sizeOf29 rfl rfl | exact y_lda (vs := [_, _]) st 7 rfl Tryd.isAgg29 Tryd.sizeOf29 rfl rfl | exact y_lda (vs := [_, _]) st 8 rfl Tryd.isAgg29 Tryd.sizeOf29 rfl rfl)) ?_
      refine vc_y rfl rfl (y_bld (.agg #[_, _]) [(0, _), (1, _)] rfl (fun w => by simp [Instr.build, go_sem] <;> repeat' constructor)) ?_
      refine vc_y rfl rfl (y_neF rfl rfl) ?_
      refine vc_y rfl rfl (y_pickf rfl rfl) ?_
      refine vc_e (e_mvb rfl rfl rfl ?_ ?_)
      · intro hg29
        exact absurd hg29 (by decide)
      · intro hg29
        try simp only [decide_eq_true_eq, decide_eq_false_iff_not, Bool.not_eq_true', Bool.not_eq_false', Bool.not_eq_true, Bool.not_eq_false, Int.not_lt, Int.not_le, Nat.not_lt, Nat.not_le, Bool.not_true, Bool.not_false, Bool.true_eq_false, Bool.false_eq_true] at hg29
        refine vc_y rfl rfl ((by first | exact y_faz (k := 2) rfl Tryd.underlying44 rfl rfl Tryd.sizeOf42 rfl | exact y_fa (k := 2) rfl Tryd.underlying44 rfl rfl Tryd.sizeOf42 rfl)) ?_
        refine vc_y rfl rfl ((by first | exact y_ld st 0 rfl Tryd.isAgg42 rfl rfl | exact y_ld st 1 rfl Tryd.isAgg42 rfl rfl | exact y_ld st 2 rfl Tryd.isAgg42 rfl rfl | exact y_ld st 3 rfl Tryd.isAgg42 rfl rfl | exact y_ld st 4 rfl Tryd.isAgg42 rfl rfl | exact y_ld st 5 rfl Tryd.isAgg42 rfl rfl | exact y_ld st 6 rfl Tryd.isAgg42 rfl rfl | exact y_ld st 7 rfl Tryd.isAgg42 rfl rfl | exact y_ld st 8 rfl Tryd.isAgg42 rfl rfl)) ?_
        refine vc_y rfl rfl (y_lensl rfl Tryd.underlying42) ?_
        refine vc_y rfl rfl (y_nei rfl rfl) ?_
        refine vc_y rfl rfl (y_pickf rfl rfl) ?_
        refine vc_e (e_mvb rfl rfl rfl ?_ ?_)
        · intro hg35
          exact absurd hg35 (by decide)
        · intro hg35
          try simp only [decide_eq_true_eq, decide_eq_false_iff_not, Bool.not_eq_true', Bool.not_eq_false', Bool.not_eq_true, Bool.not_eq_false, Int.not_lt, Int.not_le, Nat.not_lt, Nat.not_le, Bool.not_true, Bool.not_false, Bool.true_eq_false, Bool.false_eq_true] at hg35
          refine vc_y rfl rfl ((by first | exact y_faz (k := 2) rfl Tryd.underlying44 rfl rfl Tryd.sizeOf42 rfl | exact y_fa (k := 2) rfl Tryd.underlying44 rfl rfl Tryd.sizeOf42 rfl)) ?_
          refine vc_y rfl rfl ((by first | exact y_ld st 0 rfl Tryd.isAgg42 rfl rfl | exact y_ld st 1 rfl Tryd.isAgg42 rfl rfl | exact y_ld st 2 rfl Tryd.isAgg42 rfl rfl | exact y_ld st 3 rfl Tryd.isAgg42 rfl rfl | exact y_ld st 4 rfl Tryd.isAgg42 rfl rfl | exact y_ld st 5 rfl Tryd.isAgg42 rfl rfl | exact y_ld st 6 rfl Tryd.isAgg42 rfl rfl | exact y_ld st 7 rfl Tryd.isAgg42 rfl rfl | exact y_ld st 8 rfl Tryd.isAgg42 rfl rfl)) ?_
          refine vc_y rfl rfl ((by first | exact y_ia0 (k := 0) rfl rfl Tryd.underlying42 Tryd.sizeOf78 rfl (by decide) | exact y_ia (k := 0) rfl rfl Tryd.underlying42 Tryd.sizeOf78 rfl (by decide))) ?_
          refine vc_y rfl rfl ((by first | exact y_faz (k := 2) rfl Tryd.underlying78 rfl rfl Tryd.sizeOf76 rfl | exact y_fa (k := 2) rfl Tryd.underlying78 rfl rfl Tryd.sizeOf76 rfl)) ?_
          refine vc_y rfl rfl ((by first | exact y_ldc rfl Tryd.isAgg76 (hthc 2 _ rfl) | exact y_ld st 0 rfl Tryd.isAgg76 rfl rfl | exact y_ld st 1 rfl Tryd.isAgg76 rfl rfl | exact y_ld st 2 rfl Tryd.isAgg76 rfl rfl | exact y_ld st 3 rfl Tryd.isAgg76 rfl rfl | exact y_ld st 4 rfl Tryd.isAgg76 rfl rfl | exact y_ld st 5 rfl Tryd.isAgg76 rfl rfl | exact y_ld st 6 rfl Tryd.isAgg76 rfl rfl | exact y_ld st 7 rfl Tryd.isAgg76 rfl rfl | exact y_ld st 8 rfl Tryd.isAgg76 rfl rfl)) ?_
          refine vc_y rfl rfl (y_lensl rfl Tryd.underlying76) ?_
          refine vc_y rfl rfl (y_nei rfl rfl) ?_
          refine vc_y rfl rfl (y_pickf rfl rfl) ?_
          refine vc_e (e_mvb rfl rfl rfl ?_ ?_)
          · intro hg44
            exact absurd hg44 (by decide)
          · intro hg44
            try simp only [decide_eq_true_eq, decide_eq_false_iff_not, Bool.not_eq_true', Bool.not_eq_false', Bool.not_eq_true, Bool.not_eq_false, Int.not_lt, Int.not_le, Nat.not_lt, Nat.not_le, Bool.not_true, Bool.not_false, Bool.true_eq_false, Bool.false_eq_true] at hg44
            refine vc_y rfl rfl (y_fa0 rfl Tryd.underlying44 rfl rfl Tryd.sizeOf41 rfl) ?_
            refine vc_y rfl rfl ((by first | exact y_ld st 0 rfl Tryd.isAgg41 rfl rfl | exact y_ld st 1 rfl Tryd.isAgg41 rfl rfl | exact y_ld st 2 rfl Tryd.isAgg41 rfl rfl | exact y_ld st 3 rfl Tryd.isAgg41 rfl rfl | exact y_ld st 4 rfl Tryd.isAgg41 rfl rfl | exact y_ld st 5 rfl Tryd.isAgg41 rfl rfl | exact y_ld st 6 rfl Tryd.isAgg41 rfl rfl | exact y_ld st 7 rfl Tryd.isAgg41 rfl rfl | exact y_ld st 8 rfl Tryd.isAgg41 rfl rfl)) ?_
            refine vc_y rfl rfl (y_lensl rfl Tryd.underlying41) ?_
            refine vc_y rfl rfl (y_nei rfl rfl) ?_
            refine vc_y rfl rfl (y_pickf rfl rfl) ?_
            refine vc_e (e_mvb rfl rfl rfl ?_ ?_)
            · intro hg50
              exact absurd hg50 (by decide)
            · intro hg50
              try simp only [decide_eq_true_eq, decide_eq_false_iff_not, Bool.not_eq_true', Bool.not_eq_false', Bool.not_eq_true, Bool.not_eq_false, Int.not_lt, Int.not_le, Nat.not_lt, Nat.not_le, Bool.not_true, Bool.not_false, Bool.true_eq_false, Bool.false_eq_true] at hg50
              refine vc_y rfl rfl (y_fa0 rfl Tryd.underlying44 rfl rfl Tryd.sizeOf41 rfl) ?_
              refine vc_y rfl rfl ((by first | exact y_ld st 0 rfl Tryd.isAgg41 rfl rfl | exact y_ld st 1 rfl Tryd.isAgg41 rfl rfl | exact y_ld st 2 rfl Tryd.isAgg41 rfl rfl | exact y_ld st 3 rfl Tryd.isAgg41 rfl rfl | exact y_ld st 4 rfl Tryd.isAgg41 rfl rfl | exact y_ld st 5 rfl Tryd.isAgg41 rfl rfl | exact y_ld st 6 rfl Tryd.isAgg41 rfl rfl | exact y_ld st 7 rfl Tryd.isAgg41 rfl rfl | exact y_ld st 8 rfl Tryd.isAgg41 rfl rfl)) ?_
              refine vc_y rfl rfl ((by first | exact y_ia0 (k := 0) rfl rfl Tryd.underlying41 Tryd.sizeOf80 rfl (by decide) | exact y_ia (k := 0) rfl rfl Tryd.underlying41 Tryd.sizeOf80 rfl (by decide))) ?_
              refine vc_y rfl rfl ((by first | exact y_faz (k := 1) rfl Tryd.underlying80 rfl rfl Tryd.sizeOf2 rfl | exact y_fa (k := 1) rfl Tryd.underlying80 rfl rfl Tryd.sizeOf2 rfl)) ?_
              refine vc_y rfl rfl ((by first | exact y_ldc rfl Tryd.isAgg2 (hds 0 _ rfl 1 _ rfl) | exact y_ld st 0 rfl Tryd.isAgg2 rfl rfl | exact y_ld st 1 rfl Tryd.isAgg2 rfl rfl | exact y_ld st 2 rfl Tryd.isAgg2 rfl rfl | exact y_ld st 3 rfl Tryd.isAgg2 rfl rfl | exact y_ld st 4 rfl Tryd.isAgg2 rfl rfl | exact y_ld st 5 rfl Tryd.isAgg2 rfl rfl | exact y_ld st 6 rfl Tryd.isAgg2 rfl rfl | exact y_ld st 7 rfl Tryd.isAgg2 rfl rfl | exact y_ld st 8 rfl Tryd.isAgg2 rfl rfl)) ?_
              refine vc_y rfl rfl (y_nei rfl rfl) ?_
              refine vc_y rfl rfl (y_pickf rfl rfl) ?_
              refine vc_end ?_
              refine vq_then ?_
              refine vc_keep [(1, _), (57, _)] ⟨rfl, rfl, trivial⟩ ?_
              refine vc_ifs rfl ?_ ?_
              · intro hc57
                exact absurd hc57 (by decide)
              · intro hc57
                try simp only [decide_eq_true_eq, decide_eq_false_iff_not, Bool.not_eq_true', Bool.not_eq_false', Bool.not_eq_true, Bool.not_eq_false, Int.not_lt, Int.not_le, Nat.not_lt, Nat.not_le, Bool.not_true, Bool.not_false, Bool.true_eq_false, Bool.false_eq_true] at hc57
                refine vc_code_skip ?_
                refine vq_then ?_
                refine vc_keep [(1, _)] ⟨rfl, trivial⟩ ?_
                refine vc_seq ?_
                refine vc_region ?_
                refine vc_y rfl rfl ((by first | exact y_faz (k := 2) rfl Tryd.underlying44 rfl rfl Tryd.sizeOf42 rfl | exact y_fa (k := 2) rfl Tryd.underlying44 rfl rfl Tryd.sizeOf42 rfl)) ?_
                refine vc_y rfl rfl ((by first | exact y_ld st 0 rfl Tryd.isAgg42 rfl rfl | exact y_ld st 1 rfl Tryd.isAgg42 rfl rfl | exact y_ld st 2 rfl Tryd.isAgg42 rfl rfl | exact y_ld st 3 rfl Tryd.isAgg42 rfl rfl | exact y_ld st 4 rfl Tryd.isAgg42 rfl rfl | exact y_ld st 5 rfl Tryd.isAgg42 rfl rfl | exact y_ld st 6 rfl Tryd.isAgg42 rfl rfl | exact y_ld st 7 rfl Tryd.isAgg42 rfl rfl | exact y_ld st 8 rfl Tryd.isAgg42 rfl rfl)) ?_
                refine vc_y rfl rfl ((by first | exact y_ia0 (k := 0) rfl rfl Tryd.underlying42 Tryd.sizeOf78 rfl (by decide) | exact y_ia (k := 0) rfl rfl Tryd.underlying42 Tryd.sizeOf78 rfl (by decide))) ?_
                refine vc_y rfl rfl ((by first | exact y_faz (k := 2) rfl Tryd.underlying78 rfl rfl Tryd.sizeOf76 rfl | exact y_fa (k := 2) rfl Tryd.underlying78 rfl rfl Tryd.sizeOf76 rfl)) ?_
                refine vc_y rfl rfl ((by first | exact y_ldc rfl Tryd.isAgg76 (hthc 2 _ rfl) | exact y_ld st 0 rfl Tryd.isAgg76 rfl rfl | exact y_ld st 1 rfl Tryd.isAgg76 rfl rfl | exact y_ld st 2 rfl Tryd.isAgg76 rfl rfl | exact y_ld st 3 rfl Tryd.isAgg76 rfl rfl | exact y_ld st 4 rfl Tryd.isAgg76 rfl rfl | exact y_ld st 5 rfl Tryd.isAgg76 rfl rfl | exact y_ld st 6 rfl Tryd.isAgg76 rfl rfl | exact y_ld st 7 rfl Tryd.isAgg76 rfl rfl | exact y_ld st 8 rfl Tryd.isAgg76 rfl rfl)) ?_
                refine vc_y rfl rfl ((by first | exact y_ia0 (k := 0) rfl rfl Tryd.underlying76 Tryd.sizeOf83 rfl (by decide) | exact y_ia (k := 0) rfl rfl Tryd.underlying76 Tryd.sizeOf83 rfl (by decide))) ?_
                refine vc_y rfl rfl ((by first | exact y_faz (k := 3) rfl Tryd.underlying83 rfl rfl Tryd.sizeOf24 rfl | exact y_fa (k := 3) rfl Tryd.underlying83 rfl rfl Tryd.sizeOf24 rfl)) ?_
                refine vc_y rfl rfl ((by first | exact y_ldc rfl Tryd.isAgg24 (hsc 3 _ rfl) | exact y_ld st 0 rfl Tryd.isAgg24 rfl rfl | exact y_ld st 1 rfl Tryd.isAgg24 rfl rfl | exact y_ld st 2 rfl Tryd.isAgg24 rfl rfl | exact y_ld st 3 rfl Tryd.isAgg24 rfl rfl | exact y_ld st 4 rfl Tryd.isAgg24 rfl rfl | exact y_ld st 5 rfl Tryd.isAgg24 rfl rfl | exact y_ld st 6 rfl Tryd.isAgg24 rfl rfl | exact y_ld st 7 rfl Tryd.isAgg24 rfl rfl | exact y_ld st 8 rfl Tryd.isAgg24 rfl rfl)) ?_
                refine vc_y rfl rfl (y_as rfl) ?_
                refine vc_end ?_
                refine vq_then ?_
                refine vc_keep [(7, _)] ⟨rfl, trivial⟩ ?_
                refine vc_seq ?_
                refine vc_region ?_
                refine vc_y rfl rfl (y_mv rfl) ?_
                refine vc_y rfl rfl (y_lensl rfl Tryd.underlying24) ?_
                refine vc_y rfl rfl (y_eqi rfl rfl) ?_
                refine vc_e (e_mvb rfl rfl rfl ?_ ?_)
                · intro hg69
                  try simp only [decide_eq_true_eq, decide_eq_false_iff_not, Bool.not_eq_true', Bool.not_eq_false', Bool.not_eq_true, Bool.not_eq_false, Int.not_lt, Int.not_le, Nat.not_lt, Nat.not_le, Bool.not_true, Bool.not_false, Bool.true_eq_false, Bool.false_eq_true] at hg69
                  refine vc_y rfl rfl (y_mv rfl) ?_
                  refine vc_y rfl rfl ((by first | exact y_ia0 (k := 0) rfl rfl Tryd.underlying24 Tryd.sizeOf26 rfl (by decide) | exact y_ia (k := 0) rfl rfl Tryd.underlying24 Tryd.sizeOf26 rfl (by decide))) ?_
                  refine vc_y rfl rfl ((by first | exact y_faz (k := 1) rfl Tryd.underlying26 rfl rfl Tryd.sizeOf23 rfl | exact y_fa (k := 1) rfl Tryd.underlying26 rfl rfl Tryd.sizeOf23 rfl)) ?_
                  refine vc_y rfl rfl ((by first | exact y_ldc rfl Tryd.isAgg23 (hec 1 _ rfl) | exact y_ld st 0 rfl Tryd.isAgg23 rfl rfl | exact y_ld st 1 rfl Tryd.isAgg23 rfl rfl | exact y_ld st 2 rfl Tryd.isAgg23 rfl rfl | exact y_ld st 3 rfl Tryd.isAgg23 rfl rfl | exact y_ld st 4 rfl Tryd.isAgg23 rfl rfl | exact y_ld st 5 rfl Tryd.isAgg23 rfl rfl | exact y_ld st 6 rfl Tryd.isAgg23 rfl rfl | exact y_ld st 7 rfl Tryd.isAgg23 rfl rfl | exact y_ld st 8 rfl Tryd.isAgg23 rfl rfl)) ?_
                  refine vc_y rfl rfl (y_eqi rfl rfl) ?_
                  refine vc_y rfl rfl (y_pickt rfl rfl) ?_
                  refine vc_e (e_mvb rfl rfl rfl ?_ ?_)
                  · intro hg76
                    try simp only [decide_eq_true_eq, decide_eq_false_iff_not, Bool.not_eq_true', Bool.not_eq_false', Bool.not_eq_true, Bool.not_eq_false, Int.not_lt, Int.not_le, Nat.not_lt, Nat.not_le, Bool.not_true, Bool.not_false, Bool.true_eq_false, Bool.false_eq_true] at hg76
                    refine vc_y rfl rfl (y_mv rfl) ?_
                    refine vc_y rfl rfl ((by first | exact y_ia0 (k := 0) rfl rfl Tryd.underlying24 Tryd.sizeOf26 rfl (by decide) | exact y_ia (k := 0) rfl rfl Tryd.underlying24 Tryd.sizeOf26 rfl (by decide))) ?_
                    refine vc_y rfl rfl ((by first | exact y_faz (k := 4) rfl Tryd.underlying26 rfl rfl Tryd.sizeOf24 rfl | exact y_fa (k := 4) rfl Tryd.underlying26 rfl rfl Tryd.sizeOf24 rfl)) ?_
                    refine vc_y rfl rfl ((by first | exact y_ldc rfl Tryd.isAgg24 (hec 4 _ rfl) | exact y_ld st 0 rfl Tryd.isAgg24 rfl rfl | exact y_ld st 1 rfl Tryd.isAgg24 rfl rfl | exact y_ld st 2 rfl Tryd.isAgg24 rfl rfl | exact y_ld st 3 rfl Tryd.isAgg24 rfl rfl | exact y_ld st 4 rfl Tryd.isAgg24 rfl rfl | exact y_ld st 5 rfl Tryd.isAgg24 rfl rfl | exact y_ld st 6 rfl Tryd.isAgg24 rfl rfl | exact y_ld st 7 rfl Tryd.isAgg24 rfl rfl | exact y_ld st 8 rfl Tryd.isAgg24 rfl rfl)) ?_
                    refine vc_y rfl rfl (y_lensl rfl Tryd.underlying24) ?_
                    refine vc_y rfl rfl (y_eqi rfl rfl) ?_
                    refine vc_y rfl rfl (y_pickt rfl rfl) ?_
                    refine vc_e (e_mvb rfl rfl rfl ?_ ?_)
                    · intro hg84
                      try simp only [decide_eq_true_eq, decide_eq_false_iff_not, Bool.not_eq_true', Bool.not_eq_false', Bool.not_eq_true, Bool.not_eq_false, Int.not_lt, Int.not_le, Nat.not_lt, Nat.not_le, Bool.not_true, Bool.not_false, Bool.true_eq_false, Bool.false_eq_true] at hg84
                      refine vc_y rfl rfl (y_mv rfl) ?_
                      refine vc_y rfl rfl ((by first | exact y_ia0 (k := 0) rfl rfl Tryd.underlying24 Tryd.sizeOf26 rfl (by decide) | exact y_ia (k := 0) rfl rfl Tryd.underlying24 Tryd.sizeOf26 rfl (by decide))) ?_
                      refine vc_y rfl rfl ((by first | exact y_faz (k := 4) rfl Tryd.underlying26 rfl rfl Tryd.sizeOf24 rfl | exact y_fa (k := 4) rfl Tryd.underlying26 rfl rfl Tryd.sizeOf24 rfl)) ?_
                      refine vc_y rfl rfl ((by first | exact y_ldc rfl Tryd.isAgg24 (hec 4 _ rfl) | exact y_ld st 0 rfl Tryd.isAgg24 rfl rfl | exact y_ld st 1 rfl Tryd.isAgg24 rfl rfl | exact y_ld st 2 rfl Tryd.isAgg24 rfl rfl | exact y_ld st 3 rfl Tryd.isAgg24 rfl rfl | exact y_ld st 4 rfl Tryd.isAgg24 rfl rfl | exact y_ld st 5 rfl Tryd.isAgg24 rfl rfl | exact y_ld st 6 rfl Tryd.isAgg24 rfl rfl | exact y_ld st 7 rfl Tryd.isAgg24 rfl rfl | exact y_ld st 8 rfl Tryd.isAgg24 rfl rfl)) ?_
                      refine vc_y rfl rfl ((by first | exact y_ia0 (k := 1) rfl rfl Tryd.underlying24 Tryd.sizeOf26 rfl (by decide) | exact y_ia (k := 1) rfl rfl Tryd.underlying24 Tryd.sizeOf26 rfl (by decide))) ?_
                      refine vc_y rfl rfl ((by first | exact y_faz (k := 1) rfl Tryd.underlying26 rfl rfl Tryd.sizeOf23 rfl | exact y_fa (k := 1) rfl Tryd.underlying26 rfl rfl Tryd.sizeOf23 rfl)) ?_
                      refine vc_y rfl rfl ((by first | exact y_ldc rfl Tryd.isAgg23 (hkc 1 _ rfl) | exact y_ld st 0 rfl Tryd.isAgg23 rfl rfl | exact y_ld st 1 rfl Tryd.isAgg23 rfl rfl | exact y_ld st 2 rfl Tryd.isAgg23 rfl rfl | exact y_ld st 3 rfl Tryd.isAgg23 rfl rfl | exact y_ld st 4 rfl Tryd.isAgg23 rfl rfl | exact y_ld st 5 rfl Tryd.isAgg23 rfl rfl | exact y_ld st 6 rfl Tryd.isAgg23 rfl rfl | exact y_ld st 7 rfl Tryd.isAgg23 rfl rfl | exact y_ld st 8 rfl Tryd.isAgg23 rfl rfl)) ?_
                      refine vc_y rfl rfl (y_eqi rfl rfl) ?_
                      refine vc_y rfl rfl (y_pickt rfl rfl) ?_
                      refine vc_y rfl rfl (y_as rfl) ?_
                      refine vc_end ?_
                      refine vq_then ?_
                      refine vc_keep [(0, _)] ⟨rfl, trivial⟩ ?_
                      refine vc_ret ?_
                      refine vq_ret1 st (.inl rfl) Tryd.results10 (.tmp rfl) ?_
                      refine ⟨_, rfl, ?_⟩
                      exact ⟨rfl, st.chg⟩
                    · intro hg84
                      exact absurd hg84 (by decide)
                  · intro hg76
                    exact absurd hg76 (by decide)
                · intro hg69
                  exact absurd hg69 (by decide)

end Go.Proofs.YtggnfanphcaamaaDoor


/- When trees are the same: no program in sight. -/
namespace LexS
open Sx
set_option linter.unusedVariables false
set_option linter.unusedSimpArgs false
def zipA {α β : Type} (f : α → β → Bool) : List α → List β → Bool
  | [], [] => true
  | x :: r, y :: s => f x y && zipA f r s
  | _, _ => false
theorem zipA_len {α β : Type} {f : α → β → Bool} : ∀ {a : List α} {b : List β}, a.length ≠ b.length → zipA f a b = false
  | [], [], h => absurd rfl h
  | x :: r, y :: s, h => by simp only [zipA, zipA_len (f := f) (a := r) (b := s) (by simpa using h), Bool.and_false]
  | [], _ :: _, _ => rfl
  | _ :: _, [], _ => rfl
theorem zipA_no {α β : Type} {f : α → β → Bool} : ∀ {a : List α} {b : List β} {j : Nat} {x : α} {y : β}, a[j]? = some x → b[j]? = some y → f x y = false → zipA f a b = false
  | [], _, j, x, y, h, _, _ => by simp at h
  | _ :: _, [], j, x, y, _, h, _ => by simp at h
  | u :: r, v :: s, 0, x, y, h1, h2, h => by simp at h1 h2; subst h1 h2; simp [zipA, h]
  | u :: r, v :: s, j + 1, x, y, h1, h2, h => by simp only [zipA, zipA_no (f := f) (a := r) (b := s) (by simpa using h1) (by simpa using h2) h, Bool.and_false]
theorem zipA_yes {α β : Type} {f : α → β → Bool} : ∀ {a : List α} {b : List β}, a.length = b.length → (∀ (j : Nat) x y, j < a.length → a[j]? = some x → b[j]? = some y → f x y = true) → zipA f a b = true
  | [], [], _, _ => rfl
  | u :: r, v :: s, hl, h => by
    simp only [zipA, Bool.and_eq_true]
    exact ⟨h 0 u v (by simp) rfl rfl, zipA_yes (by simpa using hl) fun j x y hj h1 h2 => h (j + 1) x y (by simp; omega) (by simpa using h1) (by simpa using h2)⟩
  | [], _ :: _, hl, _ => by simp at hl
  | _ :: _, [], hl, _ => by simp at hl
mutual
def sameE : Ex → Ex → Bool
  | .mk k op wd nm kids a, y => decide (k = y.k ∧ op = y.op ∧ wd = y.wd ∧ nm = y.nm) && sameEs kids y.kids
termination_by structural e => e
def sameEs : List Ex → List Ex → Bool
  | [], l => l.isEmpty
  | x :: r, l => match l with | [] => false | y :: s => sameE x y && sameEs r s
termination_by structural l => l
end
theorem sameEs_eq : ∀ (a b : List Ex), sameEs a b = zipA sameE a b
  | [], [] => rfl
  | [], _ :: _ => rfl
  | _ :: _, [] => by simp [sameEs, zipA]
  | x :: r, y :: s => by simp only [sameEs, zipA, sameEs_eq r s]
theorem sameE_eq (e y : Ex) : sameE e y = (decide (e.k = y.k ∧ e.op = y.op ∧ e.wd = y.wd ∧ e.nm = y.nm) && zipA sameE e.kids y.kids) := by
  cases e; rw [sameE, sameEs_eq]; rfl
mutual
def sameS : Sm → Sm → Bool
  | .mk k nm other e body els a, y => decide (k = y.k ∧ nm = y.nm ∧ other = y.other) && zipA sameE e y.e && sameSs body y.body && sameSs els y.els
termination_by structural e => e
def sameSs : List Sm → List Sm → Bool
  | [], l => l.isEmpty
  | x :: r, l => match l with | [] => false | y :: s => sameS x y && sameSs r s
termination_by structural l => l
end
theorem sameSs_eq : ∀ (a b : List Sm), sameSs a b = zipA sameS a b
  | [], [] => rfl
  | [], _ :: _ => rfl
  | _ :: _, [] => by simp [sameSs, zipA]
  | x :: r, y :: s => by simp only [sameSs, zipA, sameSs_eq r s]
theorem sameS_eq (s y : Sm) : sameS s y = (decide (s.k = y.k ∧ s.nm = y.nm ∧ s.other = y.other) && zipA sameE s.e y.e && zipA sameS s.body y.body && zipA sameS s.els y.els) := by
  cases s; rw [sameS, sameSs_eq, sameSs_eq]; rfl
def sameD (d y : Dc) : Bool := decide (d.nm = y.nm ∧ d.wd = y.wd)
def sameT (t y : Th) : Bool := decide (t.nm = y.nm) && zipA sameD t.locals y.locals && zipA sameS t.body y.body
def sameP (p q : Pg) : Bool := zipA sameD p.shared q.shared && zipA sameD p.locks q.locks && zipA sameT p.threads q.threads
theorem memE_lt {e x : Ex} (h : x ∈ e.kids) : SizeOf.sizeOf x < SizeOf.sizeOf e := by
  cases e with
  | mk k op wd nm kids a =>
    have := List.sizeOf_lt_of_mem h
    simp only [Ex.kids] at this
    simp only [Ex.mk.sizeOf_spec]; omega
end LexS


/- The engine, twentieth part: trees whose numbers are of their kinds; how great they are; arguments that are trees, opened. -/
namespace Sx
open Go Go.RowKit
set_option linter.unusedVariables false
set_option linter.unusedSimpArgs false
/-! ## numbers are of their kinds -/
def i64 (x : Int) : Prop := -9223372036854775808 ≤ x ∧ x ≤ 9223372036854775807
def u8 (x : Int) : Prop := 0 ≤ x ∧ x ≤ 255
inductive OkE : Ex → Prop
  | mk {k op wd : Int} {nm : List UInt8} {kids : List Ex} {a : Int} (h1 : u8 k) (h2 : u8 op) (h3 : i64 wd) (h4 : i64 a) (hn : kids.length ≤ 1099511627776) (hk : ∀ (j : Nat) x, kids[j]? = some x → OkE x) : OkE (.mk k op wd nm kids a)
theorem OkE.k {e : Ex} (h : OkE e) : u8 e.k := by cases h; assumption
theorem OkE.op {e : Ex} (h : OkE e) : u8 e.op := by cases h; assumption
theorem OkE.wd {e : Ex} (h : OkE e) : i64 e.wd := by cases h; assumption
theorem OkE.a {e : Ex} (h : OkE e) : i64 e.a := by cases h; assumption
theorem OkE.kid {e x : Ex} {j : Nat} (h : OkE e) (hj : e.kids[j]? = some x) : OkE x := by cases h with | mk h1 h2 h3 h4 hn hk => exact hk j x hj
def OkEs (es : List Ex) : Prop := es.length ≤ 1099511627776 ∧ ∀ (j : Nat) x, es[j]? = some x → OkE x
theorem OkE.kids {e : Ex} (h : OkE e) : OkEs e.kids := ⟨by cases h; assumption, fun j x hx => h.kid hx⟩
inductive OkS : Sm → Prop
  | mk {k : Int} {nm other : List UInt8} {e : List Ex} {body els : List Sm} {a : Int} (h1 : u8 k) (h2 : i64 a) (he : OkEs e) (hnb : body.length ≤ 1099511627776) (hb : ∀ (j : Nat) x, body[j]? = some x → OkS x) (hnl : els.length ≤ 1099511627776) (hl : ∀ (j : Nat) x, els[j]? = some x → OkS x) : OkS (.mk k nm other e body els a)
def OkSs (ss : List Sm) : Prop := ss.length ≤ 1099511627776 ∧ ∀ (j : Nat) x, ss[j]? = some x → OkS x
theorem OkS.k {s : Sm} (h : OkS s) : u8 s.k := by cases h; assumption
theorem OkS.a {s : Sm} (h : OkS s) : i64 s.a := by cases h; assumption
theorem OkS.e {s : Sm} (h : OkS s) : OkEs s.e := by cases h; assumption
theorem OkS.body {s : Sm} (h : OkS s) : OkSs s.body := by cases h with | mk h1 h2 he hnb hb hnl hl => exact ⟨hnb, hb⟩
theorem OkS.els {s : Sm} (h : OkS s) : OkSs s.els := by cases h with | mk h1 h2 he hnb hb hnl hl => exact ⟨hnl, hl⟩
def OkD (ds : List Dc) : Prop := ds.length ≤ 1099511627776 ∧ ∀ (j : Nat) x, ds[j]? = some x → i64 x.wd ∧ i64 x.a
def OkT (ts : List Th) : Prop := ts.length ≤ 1099511627776 ∧ ∀ (j : Nat) t, ts[j]? = some t → OkD t.locals ∧ OkSs t.body ∧ i64 t.a
def OkP (p : Pg) : Prop := OkD p.shared ∧ OkD p.locks ∧ OkT p.threads

structure TyIds where
  k1 : TypeId
  op : TypeId
  wd : TypeId
  str : TypeId
  es : TypeId
  e : TypeId
  int : TypeId
  k2 : TypeId
  ss : TypeId
  s : TypeId
  ds : TypeId
  d : TypeId
  ts : TypeId
  t : TypeId
  pg : TypeId
section
variable {H : Type} {enc : TypeId × Value → H} {P : Program} {w : World}
theorem bounds8 {n : Int} (h : (Lit.int .u8 n).wf = true) : u8 n := by
  simp only [Lit.wf, IntKind.min, IntKind.max, IntKind.signed, IntKind.bits] at h
  simp at h
  exact ⟨by omega, by omega⟩
variable {I : TyIds}
end
end Sx


/- How great a tree is, as Lean counts. -/
namespace Sx
abbrev szo {α : Type} [SizeOf α] (x : α) : Nat := SizeOf.sizeOf x
theorem ex_size {k op wd : Int} {nm : List UInt8} {kids : List Ex} {a : Int} : szo kids < szo (Ex.mk k op wd nm kids a) := by
  simp only [szo, Ex.mk.sizeOf_spec]; omega
theorem mem_size {α : Type} [SizeOf α] {l : List α} {j : Nat} {x : α} (h : l[j]? = some x) : szo x < szo l := List.sizeOf_lt_of_mem (List.mem_of_getElem? h)
theorem sm_size {k : Int} {nm other : List UInt8} {e : List Ex} {body els : List Sm} {a : Int} : szo body < szo (Sm.mk k nm other e body els a) ∧ szo els < szo (Sm.mk k nm other e body els a) := by
  simp only [szo, Sm.mk.sizeOf_spec]; omega
theorem szo_kids (e : Ex) : szo e.kids < szo e := by cases e; exact ex_size
end Sx

