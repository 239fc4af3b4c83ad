/- A part of the proof: contracts of functions and plain laws; each theorem says its own conditions. -/
import Derived.Test.YtggnfanphcaamaaDoorK12
import Derived.Test.YtggnfanphcaamaaDoorK0
namespace Go.Proofs.YtggnfanphcaamaaDoor
open Go.RowKit Sx LexS ParS
set_option linter.unusedVariables false
set_option linter.unusedSimpArgs false

theorem parse_idle (args : List Value) (h3 : args.length = 3) (w : World) : DefIdle Tryd.prog 37 args.toArray w (fun w' => w' = w) := by
  refine callsD_of_wpS Tryd.func37 rfl fun c₀ cs hu => ?_
  obtain ⟨x, y, z, rfl⟩ : ∃ x y z, args = [x, y, z] := by
    match args, h3 with
    | [x, y, z], _ => exact ⟨x, y, z, rfl⟩
  apply wpS_seq
  apply wpS_region
  simp [wpOpsS, go_sem, recoverD, hu, Tryd.ntmps37, Exit.thenS]
  apply wpS_seq
  apply wpS_region
  simp [wpOpsS, go_sem, Exit.thenS]
  refine wpS_cond (t := false) (by simp [Act.eval, Array.replicate]) ?_
  simp only [Bool.false_eq_true, if_false]
  refine wpS_of_wp (wp_skip ?_)
  cases c₀
  simp_all [bodyPostS, results, Tryd.results37]

theorem expr_idle (args : List Value) (h3 : args.length = 3) (w : World) : DefIdle Tryd.prog 28 args.toArray w (fun w' => w' = w) := by
  refine callsD_of_wpS Tryd.func28 rfl fun c₀ cs hu => ?_
  obtain ⟨x, y, z, rfl⟩ : ∃ x y z, args = [x, y, z] := by
    match args, h3 with
    | [x, y, z], _ => exact ⟨x, y, z, rfl⟩
  apply wpS_seq
  apply wpS_region
  simp [wpOpsS, go_sem, recoverD, hu, Tryd.ntmps28, Exit.thenS]
  apply wpS_seq
  apply wpS_region
  simp [wpOpsS, go_sem, Exit.thenS]
  refine wpS_cond (t := false) (by simp [Act.eval, Array.replicate]) ?_
  simp only [Bool.false_eq_true, if_false]
  refine wpS_of_wp (wp_skip ?_)
  cases c₀
  simp_all [bodyPostS, results, Tryd.results28]

theorem _root_.Sx.St.push2 {w w' w0 : World} {M : List Nat} {hs : List Res} (st : St w0 M hs w) (c : Chg [] w w') {r q : Res} (hr : r.holds w0.heap.size w') (hq : q.holds w0.heap.size w') (hat : ∀ k ∈ r.at?, w.heap.size ≤ k) (hat' : ∀ k ∈ q.at?, w.heap.size ≤ k) (hd : ∀ k ∈ r.at?, k ∉ q.at?) : St w0 M (r :: q :: hs) w' := by
  have st1 := st.pushR c hq hat'
  refine ⟨st1.chg, List.pairwise_cons.2 ⟨fun x hx k hk hk' => ?_, st1.nodup⟩, fun x hx => ?_⟩
  · rcases List.mem_cons.1 hx with rfl | h
    · exact hd k hk hk'
    · exact absurd (st.lt h hk') (by have := hat k hk; omega)
  · rcases List.mem_cons.1 hx with rfl | h
    · exact hr
    · exact st1.here x h
theorem _root_.Sx.St.pnew {s : List UInt8} {c : PCtx} {w w' w0 : World} {M : List Nat} {hs : List Res} (st : St w0 M hs w) (ch : Chg [] w w') (h : PNew s w.heap.size c w') :
    St w0 M (.blk c.pb (.cells (pcell c c.ts).toArray c.T (0, 0)) :: .own (.slice c.oa c.ts.length c.cap) 53 4 c.ts.length (toksL c.ts) :: hs) w' :=
  st.push2 ch h.at_ (ownsRow_base h.own st.chg.size) (by simpa [Res.at?] using h.le) (fun k hk => (World.ownsRow.lt h.own k (by simpa [Res.at?] using hk)).1)
    (fun k hk => by
      simp only [Res.at?, List.mem_singleton] at hk
      subst hk
      intro hk'
      simp only [Res.at?, obk_own] at hk'
      exact absurd (h.lt _ hk') (Nat.lt_irrefl _))

/-- what 'Parse' leaves behind -/
def ParsePost (s : List UInt8) (w : World) (v : Value) (w' : World) : Prop := Chg [] w w' ∧ ∃ vp, HP w (parseRes s).1 vp w' ∧ v = .tuple #[vp, .int .i64 ((parseRes s).2.1 : Int), .agg #[.int .i64 ((parseRes s).2.2.1 : Int), .int .i64 ((parseRes s).2.2.2 : Int)]]
/-- what 'Expr' leaves behind -/
def ExprPost (s : List UInt8) (w : World) (v : Value) (w' : World) : Prop := Chg [] w w' ∧ ∃ vx, HE w (exprRes s).1 vx w' ∧ v = .tuple #[vx, .int .i64 ((exprRes s).2.1 : Int), .agg #[.int .i64 ((exprRes s).2.2.1 : Int), .int .i64 ((exprRes s).2.2.2 : Int)]]
theorem hp_none (w0 : World) (w' : World) : HP w0 pg0 (.agg pg00.toArray) w' :=
  ⟨none, none, none, 0, 0, 0, [], rfl, ⟨none, 0, none, 0, none, 0, [], [], [], rfl, ⟨World.ownsRow_nil _ _ _ _, rfl⟩, ⟨World.ownsRow_nil _ _ _ _, rfl⟩, ⟨[], [], World.ownsRow_nil _ _ _ _, rfl, rfl, rfl⟩, rfl⟩, Nw.nil⟩
theorem he_none (w0 : World) (w' : World) : HE w0 ex0 (.agg ex00.toArray) w' := ⟨none, 0, [], rfl, exr_nil, Nw.nil⟩
theorem _root_.Sx.holds_pg {tE tS tD tT base : Nat} {w : World} {q : Pg} {l : List Value} {S : List Nat} (h : PgS tE tS tD tT w q l S) : (Res.tree S fun w => PgS tE tS tD tT w q l S).holds base w := holds_of h h.lt (fun a b h hk => h.kept hk)

/-- a refusal is caught -/
theorem parse_pan {s : List UInt8} {w0 w : World} {b2 b3 b4 : Nat} {f : Flt} {kn : Kn} (h2 : w.heap[b2]? = some (.cells pg00.toArray 44 (0, 0))) (h3 : w.heap[b3]? = some (.cells [.int .i64 0].toArray 27 (0, 0))) (h4 : w.heap[b4]? = some (.cells [.int .i64 0, .int .i64 0].toArray 29 (0, 0)))
    (n1 : b2 ≠ b3) (n2 : b2 ≠ b4) (n3 : b3 ≠ b4) (l2 : w0.heap.size ≤ b2) (l3 : w0.heap.size ≤ b3) (l4 : w0.heap.size ≤ b4) (ch : Chg [] w0 w) (hpr : parseRes s = (pg0, 30, f.1, f.2))
    (k2 : find kn 2 = some (.pointer (some ⟨b2, 0, none⟩))) (k3 : find kn 3 = some (.pointer (some ⟨b3, 0, none⟩))) (k4 : find kn 4 = some (.pointer (some ⟨b4, 0, none⟩))) :
    PanK (21, [⟨.fn (.func 37) (List.toArray [.pointer (some ⟨b2, 0, none⟩), .pointer (some ⟨b3, 0, none⟩), .pointer (some ⟨b4, 0, none⟩)]), #[]⟩]) kn (bodyPostD Tryd.prog Tryd.f16 fun e w' => ∃ v, e = .returned v ∧ ParsePost s w0 v w') (.iface 65 (.agg #[.int .i64 (f.1 : Int), .int .i64 (f.2 : Int)])) w := by
  refine pan_leave Tryd.call37 (parse_catch b2 b3 b4 f.1 f.2 _ w h2 h3 h4 n1 n2 n3) (fun w2 hc => ?_)
  obtain ⟨g2, g3, g4, c2⟩ := hc
  have st2 := St.of3 [] g2 g3 g4 n1 n2 n3
  refine ⟨_, results3 st2 Tryd.results16 (.cell 0 k2 rfl Tryd.isAgg44 Tryd.sizeOf44) (.cell1 1 k3 rfl Tryd.isAgg27 rfl) (.cell 2 k4 rfl Tryd.isAgg29 Tryd.sizeOf29), _, rfl, ch.trans' c2 (by simp [l2, l3, l4]), ?_⟩
  rw [hpr]
  exact ⟨_, hp_none _ _, rfl⟩

set_option maxHeartbeats 1000000 in
theorem parse_any (s : List UInt8) (w : World) (hsg : SigAt 0 w) : Ret Tryd.prog 16 [str s] w (ParsePost s w) := by
  refine retd_of [_] Tryd.func16 rfl Tryd.ntmps16 rfl ?_
  have st := St.init w []
  obtain ⟨w0, rfl⟩ : ∃ w0, w0 = w := ⟨_, rfl⟩
  have h0 : 0 < w0.heap.size := World.block_lt_of_cell? w0 _ (hsg 0 (by omega)).1
  refine vc_seq ?_
  refine vc_region ?_
  refine vc_e (e_al (l := [_, _, _]) st rfl rfl Tryd.zeroValue44 rfl ?_)
  intro b2 w hb2 st
  refine vc_e (e_al (l := [_]) st rfl rfl Tryd.zeroValue27 rfl ?_)
  intro b3 w hb3 st
  refine vc_e (e_al (l := [_, _]) st rfl rfl Tryd.zeroValue29 rfl ?_)
  intro b4 w hb4 st
  refine vc_end ?_
  refine vq_then ?_
  refine vc_keep [(0, _), (2, _), (3, _), (4, _)] ⟨rfl, rfl, rfl, rfl, trivial⟩ ?_
  refine vc_seq ?_
  refine vc_region ?_
  refine vc_y rfl rfl (y_mv rfl) ?_
  have n43 := st.bne 0 1 (by decide) rfl rfl
  have n42 := st.bne 0 2 (by decide) rfl rfl
  have n32 := st.bne 1 2 (by decide) rfl rfl
  have n34 := Ne.symm n43
  have n24 := Ne.symm n42
  have n23 := Ne.symm n32
  have hw1 := st.chg.size
  refine vc_e (e_call [_] rfl rfl Tryd.call27 rfl (begun_any s _ (hsg.kept st.chg (by simp))) ?_)
  rintro _ w ⟨cw, hb⟩
  rcases hb with ⟨hl, rfl⟩ | ⟨hl, ru, pl, hfr, rfl⟩ | ⟨hl, hfr, c, hn, rfl⟩
  · replace st := st.call0 cw
    have hpr : parseRes s = (pg0, 4, 0, 0) := by simp [parseRes, hl]
    refine vc_y rfl rfl (y_mv rfl) ?_
    refine vc_y rfl rfl (y_ext rfl rfl) ?_
    refine vc_y rfl rfl (y_ext rfl rfl) ?_
    refine vc_y rfl rfl (y_ext rfl rfl) ?_
    refine vc_y rfl rfl (y_as rfl) ?_
    refine vc_e (e_st st 1 rfl rfl rfl rfl Tryd.sizeOf27 rfl rfl (by first | (right; assumption) | (left; simp)) ?_)
    intro w st; dsimp only [setNth, wr] at st
    refine vc_e (e_sts (vs := [_, _]) st 0 rfl rfl rfl rfl rfl Tryd.sizeOf29 rfl rfl (by first | (right; assumption) | (left; simp)) ?_)
    intro w st; dsimp only [setNth, wr] at st
    refine vc_end ?_
    refine vq_then ?_
    refine vc_keep [(2, _), (3, _), (4, _), (5, _)] ⟨rfl, rfl, rfl, rfl, trivial⟩ ?_
    refine vc_seq ?_
    refine vc_seq ?_
    refine vc_region ?_
    refine vc_y rfl rfl ((by exact y_ld st 1 rfl Tryd.isAgg27 rfl rfl)) ?_
    refine vc_y rfl rfl (y_nei rfl rfl) ?_
    refine vc_end ?_
    refine vq_then ?_
    refine vc_keep [(2, _), (3, _), (4, _), (5, _), (13, _)] ⟨rfl, rfl, rfl, rfl, rfl, trivial⟩ ?_
    refine vc_ifs rfl ?_ ?_
    · intro hc13
      try simp only [dn] at hc13
      refine vc_seq ?_
      refine vc_noPan ?_
      refine vc_draw Tryd.mixed [(0, true), (1, true), (2, true), (3, false), (4, false), (5, false)] (fun w => St _ _ _ w) st (by kernel_rfl) (by repeat (first | exact okQ_noPan | exact okQ_body | exact okQ_bodyS | refine okQ_then ?_ | refine okQ_block ?_)) rfl (by kernel_rfl) ?_
      intro w cd; replace st := st.call0 cd; clear cd
      have hS := st
      refine vp_take rfl rfl rfl hS (fun w st => (by exact y_lda (vs := [_, _, _]) st 2 rfl Tryd.isAgg44 Tryd.sizeOf44 rfl rfl)) ?_
      refine vp_take rfl rfl rfl hS (fun w st => (by exact y_ld st 1 rfl Tryd.isAgg27 rfl rfl)) ?_
      refine vp_take rfl rfl rfl hS (fun w st => (by exact y_lda (vs := [_, _]) st 0 rfl Tryd.isAgg29 Tryd.sizeOf29 rfl rfl)) ?_
      refine vp_do rfl (e_sts (vs := [_, _, _]) st 2 rfl rfl rfl rfl rfl Tryd.sizeOf44 rfl rfl (by first | (right; assumption) | (left; simp)) ?_)
      intro w st; dsimp only [setNth, wr] at st
      refine vp_next (by exact st) ?_; intro hS
      refine vp_do rfl (e_st st 1 rfl rfl rfl rfl Tryd.sizeOf27 rfl rfl (by first | (right; assumption) | (left; simp)) ?_)
      intro w st; dsimp only [setNth, wr] at st
      refine vp_next (by exact st) ?_; intro hS
      refine vp_do rfl (e_sts (vs := [_, _]) st 0 rfl rfl rfl rfl rfl Tryd.sizeOf29 rfl rfl (by first | (right; assumption) | (left; simp)) ?_)
      intro w st; dsimp only [setNth, wr] at st
      refine vp_next (by exact st) ?_; intro hS
      refine vp_end ?_
      refine vq_noPan ?_
      refine vq_then ?_
      refine vc_keep [(2, _), (3, _), (4, _)] ⟨rfl, rfl, rfl, trivial⟩ ?_
      refine vc_ret ?_
      refine vq_then_ret ?_
      refine vqd_post (.inl rfl) (results3 st Tryd.results16 (.cell 2 rfl rfl Tryd.isAgg44 Tryd.sizeOf44) (.cell1 1 rfl rfl Tryd.isAgg27 rfl) (.cell 0 rfl rfl Tryd.isAgg29 Tryd.sizeOf29)) ?_
      refine ⟨_, rfl, st.chg, ?_⟩
      rw [hpr]
      exact ⟨_, hp_none _ _, rfl⟩
    · intro hc13
      exact absurd hc13 (by decide)
  · replace st := st.call0 cw
    have hpr : parseRes s = (pg0, 30, pl, 1) := by simp [parseRes, Nat.not_lt.2 hl, hfr]
    refine vc_y rfl rfl (y_mv rfl) ?_
    refine vc_y rfl rfl (y_ext rfl rfl) ?_
    refine vc_y rfl rfl (y_ext rfl rfl) ?_
    refine vc_y rfl rfl (y_ext rfl rfl) ?_
    refine vc_y rfl rfl (y_as rfl) ?_
    refine vc_e (e_st st 1 rfl rfl rfl rfl Tryd.sizeOf27 rfl rfl (by first | (right; assumption) | (left; simp)) ?_)
    intro w st; dsimp only [setNth, wr] at st
    refine vc_e (e_sts (vs := [_, _]) st 0 rfl rfl rfl rfl rfl Tryd.sizeOf29 rfl rfl (by first | (right; assumption) | (left; simp)) ?_)
    intro w st; dsimp only [setNth, wr] at st
    refine vc_end ?_
    refine vq_then ?_
    refine vc_keep [(2, _), (3, _), (4, _), (5, _)] ⟨rfl, rfl, rfl, rfl, trivial⟩ ?_
    refine vc_seq ?_
    refine vc_seq ?_
    refine vc_region ?_
    refine vc_y rfl rfl ((by exact y_ld st 1 rfl Tryd.isAgg27 rfl rfl)) ?_
    refine vc_y rfl rfl (y_nei rfl rfl) ?_
    refine vc_end ?_
    refine vq_then ?_
    refine vc_keep [(2, _), (3, _), (4, _), (5, _), (13, _)] ⟨rfl, rfl, rfl, rfl, rfl, trivial⟩ ?_
    refine vc_ifs rfl ?_ ?_
    · intro hc13
      try simp only [dn] at hc13
      refine vc_seq ?_
      refine vc_noPan ?_
      refine vc_draw Tryd.mixed [(0, true), (1, true), (2, true), (3, false), (4, false), (5, false)] (fun w => St _ _ _ w) st (by kernel_rfl) (by repeat (first | exact okQ_noPan | exact okQ_body | exact okQ_bodyS | refine okQ_then ?_ | refine okQ_block ?_)) rfl (by kernel_rfl) ?_
      intro w cd; replace st := st.call0 cd; clear cd
      have hS := st
      refine vp_take rfl rfl rfl hS (fun w st => (by exact y_lda (vs := [_, _, _]) st 2 rfl Tryd.isAgg44 Tryd.sizeOf44 rfl rfl)) ?_
      refine vp_take rfl rfl rfl hS (fun w st => (by exact y_ld st 1 rfl Tryd.isAgg27 rfl rfl)) ?_
      refine vp_take rfl rfl rfl hS (fun w st => (by exact y_lda (vs := [_, _]) st 0 rfl Tryd.isAgg29 Tryd.sizeOf29 rfl rfl)) ?_
      refine vp_do rfl (e_sts (vs := [_, _, _]) st 2 rfl rfl rfl rfl rfl Tryd.sizeOf44 rfl rfl (by first | (right; assumption) | (left; simp)) ?_)
      intro w st; dsimp only [setNth, wr] at st
      refine vp_next (by exact st) ?_; intro hS
      refine vp_do rfl (e_st st 1 rfl rfl rfl rfl Tryd.sizeOf27 rfl rfl (by first | (right; assumption) | (left; simp)) ?_)
      intro w st; dsimp only [setNth, wr] at st
      refine vp_next (by exact st) ?_; intro hS
      refine vp_do rfl (e_sts (vs := [_, _]) st 0 rfl rfl rfl rfl rfl Tryd.sizeOf29 rfl rfl (by first | (right; assumption) | (left; simp)) ?_)
      intro w st; dsimp only [setNth, wr] at st
      refine vp_next (by exact st) ?_; intro hS
      refine vp_end ?_
      refine vq_noPan ?_
      refine vq_then ?_
      refine vc_keep [(2, _), (3, _), (4, _)] ⟨rfl, rfl, rfl, trivial⟩ ?_
      refine vc_ret ?_
      refine vq_then_ret ?_
      refine vqd_post (.inl rfl) (results3 st Tryd.results16 (.cell 2 rfl rfl Tryd.isAgg44 Tryd.sizeOf44) (.cell1 1 rfl rfl Tryd.isAgg27 rfl) (.cell 0 rfl rfl Tryd.isAgg29 Tryd.sizeOf29)) ?_
      refine ⟨_, rfl, st.chg, ?_⟩
      rw [hpr]
      exact ⟨_, hp_none _ _, rfl⟩
    · intro hc13
      exact absurd hc13 (by decide)
  · replace st := st.pnew cw hn
    have hpr : parseRes s = match progP c.e (c.ts.length + 1) c.ts with | .error f => (pg0, 30, f.1, f.2) | .ok p => (p, 0, 0, 0) := by
      unfold parseRes; rw [if_neg (by omega), hfr, hn.e, hn.ts]
      try rfl
    refine vc_y rfl rfl (y_mv rfl) ?_
    refine vc_y rfl rfl (y_ext rfl rfl) ?_
    refine vc_y rfl rfl (y_ext rfl rfl) ?_
    refine vc_y rfl rfl (y_ext rfl rfl) ?_
    refine vc_y rfl rfl (y_as rfl) ?_
    refine vc_e (e_st st 3 rfl rfl rfl rfl Tryd.sizeOf27 rfl rfl (by first | (right; assumption) | (left; simp)) ?_)
    intro w st; dsimp only [setNth, wr] at st
    refine vc_e (e_sts (vs := [_, _]) st 2 rfl rfl rfl rfl rfl Tryd.sizeOf29 rfl rfl (by first | (right; assumption) | (left; simp)) ?_)
    intro w st; dsimp only [setNth, wr] at st
    refine vc_end ?_
    refine vq_then ?_
    refine vc_keep [(2, _), (3, _), (4, _), (5, _)] ⟨rfl, rfl, rfl, rfl, trivial⟩ ?_
    refine vc_seq ?_
    refine vc_seq ?_
    refine vc_region ?_
    refine vc_y rfl rfl ((by exact y_ld st 3 rfl Tryd.isAgg27 rfl rfl)) ?_
    refine vc_y rfl rfl (y_nei rfl rfl) ?_
    refine vc_end ?_
    refine vq_then ?_
    refine vc_keep [(2, _), (3, _), (4, _), (5, _), (13, _)] ⟨rfl, rfl, rfl, rfl, rfl, trivial⟩ ?_
    refine vc_ifs rfl ?_ ?_
    · intro hc13
      exact absurd hc13 (by decide)
    · intro hc13
      try simp only [dn] at hc13
      refine vc_code_skip ?_
      refine vq_then ?_
      refine vc_keep [(2, _), (3, _), (4, _), (5, _)] ⟨rfl, rfl, rfl, rfl, trivial⟩ ?_
      refine vc_seq ?_
      refine vc_region ?_
      refine vc_y rfl rfl (y_mf [] [_, _, _] rfl rfl) ?_
      refine vc_e (e_deferV rfl rfl rfl ?_)
      refine vc_end ?_
      refine vq_then ?_
      refine vc_keep [(2, _), (3, _), (4, _), (5, _)] ⟨rfl, rfl, rfl, rfl, trivial⟩ ?_
      refine vc_seq ?_
      refine vc_region ?_
      refine vc_y rfl rfl (y_mv rfl) ?_
      refine vc_e (e_callk [_] rfl rfl Tryd.call38 rfl (pprog_any c hn.R hn.g c.ts (List.suffix_refl _) _ (hn.ok (st.res (i := 1) rfl) (hsg.kept st.chg (by simp)) (st.res (i := 0) rfl) (Nat.lt_of_lt_of_le h0 hw1)) (st.res (i := 0) rfl) (c.ts.length + 1) (by omega)) (by
          rintro _ w' ⟨f, hf, rfl, ch⟩
          obtain ⟨o', ho'⟩ : ∃ o', w'.heap[c.pb]? = some o' := ⟨_, Array.getElem?_eq_getElem (Nat.lt_of_lt_of_le (Array.getElem?_eq_some_iff.1 (st.res (i := 0) rfl)).1 ch.size)⟩
          have st' := St.prs (b := c.pb) st 0 rfl ch (.inr (Nat.le_trans hw1 hn.le)) ho'
          dsimp only [setNth] at st'
          rw [show refV c f = .iface 65 (.agg #[.int .i64 (f.1 : Int), .int .i64 (f.2 : Int)]) by rw [refV, hn.R]]
          exact parse_pan (st'.res (i := 4) rfl) (st'.res (i := 3) rfl) (st'.res (i := 2) rfl) n23 n24 n34 hb2 hb3 hb4 st'.chg (by rw [hpr, hf]) rfl rfl rfl) ?_)
      rintro _ w ⟨q, hq, cw, os, ol, ot, cs, cl, ct, Sq, rfl, hT, hN⟩
      have hw2 := st.chg.size
      obtain ⟨o', ho'⟩ : ∃ o', w.heap[c.pb]? = some o' := ⟨_, Array.getElem?_eq_getElem (Nat.lt_of_lt_of_le (Array.getElem?_eq_some_iff.1 (st.res (i := 0) rfl)).1 cw.size)⟩
      replace st := St.prsT (b := c.pb) st 0 rfl cw (.inr (Nat.le_trans hw1 hn.le)) ho' (holds_pg hT) hN.2
      dsimp only [setNth] at st
      refine vc_y rfl rfl (y_bld (.agg #[_, _]) [] rfl (fun w => by simp [Instr.build, go_sem] <;> repeat' constructor)) ?_
      refine vc_e (e_sts (vs := [_, _, _]) st 5 rfl rfl rfl rfl rfl Tryd.sizeOf44 rfl rfl (by first | (right; assumption) | (left; simp)) ?_)
      intro w st; dsimp only [setNth, wr] at st
      refine vc_e (e_st st 4 rfl rfl rfl rfl Tryd.sizeOf27 rfl rfl (by first | (right; assumption) | (left; simp)) ?_)
      intro w st; dsimp only [setNth, wr] at st
      refine vc_e (e_sts (vs := [_, _]) st 3 rfl rfl rfl rfl rfl Tryd.sizeOf29 rfl rfl (by first | (right; assumption) | (left; simp)) ?_)
      intro w st; dsimp only [setNth, wr] at st
      refine vc_end ?_
      refine vq_then ?_
      refine vc_keep [(2, _), (3, _), (4, _)] ⟨rfl, rfl, rfl, trivial⟩ ?_
      refine vc_ret ?_
      refine vqd_ret (.inl rfl) Tryd.call37 (parse_idle [.pointer (some ⟨b2, 0, none⟩), .pointer (some ⟨b3, 0, none⟩), .pointer (some ⟨b4, 0, none⟩)] rfl _) (fun w2 e2 => ?_)
      subst e2
      refine ⟨_, results3 st Tryd.results16 (.cell 5 rfl rfl Tryd.isAgg44 Tryd.sizeOf44) (.cell1 4 rfl rfl Tryd.isAgg27 rfl) (.cell 3 rfl rfl Tryd.isAgg29 Tryd.sizeOf29), _, rfl, st.chg, ?_⟩
      rw [hpr, hq]
      dsimp only
      exact ⟨_, ⟨os, ol, ot, cs, cl, ct, Sq, rfl, (st.res (i := 0) rfl).1, hN.le hw2⟩, rfl⟩

/-- a refusal is caught -/
theorem expr_pan {s : List UInt8} {w0 w : World} {b2 b3 b4 : Nat} {f : Flt} {kn : Kn} (h2 : w.heap[b2]? = some (.cells ex00.toArray 26 (0, 0))) (h3 : w.heap[b3]? = some (.cells [.int .i64 0].toArray 27 (0, 0))) (h4 : w.heap[b4]? = some (.cells [.int .i64 0, .int .i64 0].toArray 29 (0, 0)))
    (n1 : b2 ≠ b3) (n2 : b2 ≠ b4) (n3 : b3 ≠ b4) (l2 : w0.heap.size ≤ b2) (l3 : w0.heap.size ≤ b3) (l4 : w0.heap.size ≤ b4) (ch : Chg [] w0 w) (hpr : exprRes s = (ex0, 30, f.1, f.2))
    (k2 : find kn 2 = some (.pointer (some ⟨b2, 0, none⟩))) (k3 : find kn 3 = some (.pointer (some ⟨b3, 0, none⟩))) (k4 : find kn 4 = some (.pointer (some ⟨b4, 0, none⟩))) :
    PanK (35, [⟨.fn (.func 28) (List.toArray [.pointer (some ⟨b2, 0, none⟩), .pointer (some ⟨b3, 0, none⟩), .pointer (some ⟨b4, 0, none⟩)]), #[]⟩]) kn (bodyPostD Tryd.prog Tryd.f8 fun e w' => ∃ v, e = .returned v ∧ ExprPost s w0 v w') (.iface 65 (.agg #[.int .i64 (f.1 : Int), .int .i64 (f.2 : Int)])) w := by
  refine pan_leave Tryd.call28 (expr_catch b2 b3 b4 f.1 f.2 _ w h2 h3 h4 n1 n2 n3) (fun w2 hc => ?_)
  obtain ⟨g2, g3, g4, c2⟩ := hc
  have st2 := St.of3 [] g2 g3 g4 n1 n2 n3
  refine ⟨_, results3 st2 Tryd.results8 (.cell 0 k2 rfl Tryd.isAgg26 Tryd.sizeOf26) (.cell1 1 k3 rfl Tryd.isAgg27 rfl) (.cell 2 k4 rfl Tryd.isAgg29 Tryd.sizeOf29), _, rfl, ch.trans' c2 (by simp [l2, l3, l4]), ?_⟩
  rw [hpr]
  exact ⟨_, he_none _ _, rfl⟩

set_option maxHeartbeats 1000000 in
theorem expr_any (s : List UInt8) (w : World) (hsg : SigAt 0 w) : Ret Tryd.prog 8 [str s] w (ExprPost s w) := by
  refine retd_of [_] Tryd.func8 rfl Tryd.ntmps8 rfl ?_
  have st := St.init w []
  obtain ⟨w0, rfl⟩ : ∃ w0, w0 = w := ⟨_, rfl⟩
  have h0 : 0 < w0.heap.size := World.block_lt_of_cell? w0 _ (hsg 0 (by omega)).1
  refine vc_seq ?_
  refine vc_region ?_
  refine vc_e (e_al (l := [_, _, _, _, _, _]) st rfl rfl Tryd.zeroValue26 rfl ?_)
  intro b2 w hb2 st
  refine vc_e (e_al (l := [_]) st rfl rfl Tryd.zeroValue27 rfl ?_)
  intro b3 w hb3 st
  refine vc_e (e_al (l := [_, _]) st rfl rfl Tryd.zeroValue29 rfl ?_)
  intro b4 w hb4 st
  refine vc_end ?_
  refine vq_then ?_
  refine vc_keep [(0, _), (2, _), (3, _), (4, _)] ⟨rfl, rfl, rfl, rfl, trivial⟩ ?_
  refine vc_seq ?_
  refine vc_region ?_
  refine vc_y rfl rfl (y_mv rfl) ?_
  have n43 := st.bne 0 1 (by decide) rfl rfl
  have n42 := st.bne 0 2 (by decide) rfl rfl
  have n32 := st.bne 1 2 (by decide) rfl rfl
  have n34 := Ne.symm n43
  have n24 := Ne.symm n42
  have n23 := Ne.symm n32
  have hw1 := st.chg.size
  refine vc_e (e_call [_] rfl rfl Tryd.call27 rfl (begun_any s _ (hsg.kept st.chg (by simp))) ?_)
  rintro _ w ⟨cw, hb⟩
  rcases hb with ⟨hl, rfl⟩ | ⟨hl, ru, pl, hfr, rfl⟩ | ⟨hl, hfr, c, hn, rfl⟩
  · replace st := st.call0 cw
    have hpr : exprRes s = (ex0, 4, 0, 0) := by simp [exprRes, hl]
    refine vc_y rfl rfl (y_mv rfl) ?_
    refine vc_y rfl rfl (y_ext rfl rfl) ?_
    refine vc_y rfl rfl (y_ext rfl rfl) ?_
    refine vc_y rfl rfl (y_ext rfl rfl) ?_
    refine vc_y rfl rfl (y_as rfl) ?_
    refine vc_e (e_st st 1 rfl rfl rfl rfl Tryd.sizeOf27 rfl rfl (by first | (right; assumption) | (left; simp)) ?_)
    intro w st; dsimp only [setNth, wr] at st
    refine vc_e (e_sts (vs := [_, _]) st 0 rfl rfl rfl rfl rfl Tryd.sizeOf29 rfl rfl (by first | (right; assumption) | (left; simp)) ?_)
    intro w st; dsimp only [setNth, wr] at st
    refine vc_end ?_
    refine vq_then ?_
    refine vc_keep [(2, _), (3, _), (4, _), (5, _)] ⟨rfl, rfl, rfl, rfl, trivial⟩ ?_
    refine vc_seq ?_
    refine vc_seq ?_
    refine vc_region ?_
    refine vc_y rfl rfl ((by exact y_ld st 1 rfl Tryd.isAgg27 rfl rfl)) ?_
    refine vc_y rfl rfl (y_nei rfl rfl) ?_
    refine vc_end ?_
    refine vq_then ?_
    refine vc_keep [(2, _), (3, _), (4, _), (5, _), (14, _)] ⟨rfl, rfl, rfl, rfl, rfl, trivial⟩ ?_
    refine vc_ifs rfl ?_ ?_
    · intro hc14
      try simp only [dn] at hc14
      refine vc_seq ?_
      refine vc_noPan ?_
      refine vc_draw Tryd.mixed [(0, true), (1, true), (2, true), (3, false), (4, false), (5, false)] (fun w => St _ _ _ w) st (by kernel_rfl) (by repeat (first | exact okQ_noPan | exact okQ_body | exact okQ_bodyS | refine okQ_then ?_ | refine okQ_block ?_)) rfl (by kernel_rfl) ?_
      intro w cd; replace st := st.call0 cd; clear cd
      have hS := st
      refine vp_take rfl rfl rfl hS (fun w st => (by exact y_lda (vs := [_, _, _, _, _, _]) st 2 rfl Tryd.isAgg26 Tryd.sizeOf26 rfl rfl)) ?_
      refine vp_take rfl rfl rfl hS (fun w st => (by exact y_ld st 1 rfl Tryd.isAgg27 rfl rfl)) ?_
      refine vp_take rfl rfl rfl hS (fun w st => (by exact y_lda (vs := [_, _]) st 0 rfl Tryd.isAgg29 Tryd.sizeOf29 rfl rfl)) ?_
      refine vp_do rfl (e_sts (vs := [_, _, _, _, _, _]) st 2 rfl rfl rfl rfl rfl Tryd.sizeOf26 rfl rfl (by first | (right; assumption) | (left; simp)) ?_)
      intro w st; dsimp only [setNth, wr] at st
      refine vp_next (by exact st) ?_; intro hS
      refine vp_do rfl (e_st st 1 rfl rfl rfl rfl Tryd.sizeOf27 rfl rfl (by first | (right; assumption) | (left; simp)) ?_)
      intro w st; dsimp only [setNth, wr] at st
      refine vp_next (by exact st) ?_; intro hS
      refine vp_do rfl (e_sts (vs := [_, _]) st 0 rfl rfl rfl rfl rfl Tryd.sizeOf29 rfl rfl (by first | (right; assumption) | (left; simp)) ?_)
      intro w st; dsimp only [setNth, wr] at st
      refine vp_next (by exact st) ?_; intro hS
      refine vp_end ?_
      refine vq_noPan ?_
      refine vq_then ?_
      refine vc_keep [(2, _), (3, _), (4, _)] ⟨rfl, rfl, rfl, trivial⟩ ?_
      refine vc_ret ?_
      refine vq_then_ret ?_
      refine vqd_post (.inl rfl) (results3 st Tryd.results8 (.cell 2 rfl rfl Tryd.isAgg26 Tryd.sizeOf26) (.cell1 1 rfl rfl Tryd.isAgg27 rfl) (.cell 0 rfl rfl Tryd.isAgg29 Tryd.sizeOf29)) ?_
      refine ⟨_, rfl, st.chg, ?_⟩
      rw [hpr]
      exact ⟨_, he_none _ _, rfl⟩
    · intro hc14
      exact absurd hc14 (by decide)
  · replace st := st.call0 cw
    have hpr : exprRes s = (ex0, 30, pl, 1) := by simp [exprRes, Nat.not_lt.2 hl, hfr]
    refine vc_y rfl rfl (y_mv rfl) ?_
    refine vc_y rfl rfl (y_ext rfl rfl) ?_
    refine vc_y rfl rfl (y_ext rfl rfl) ?_
    refine vc_y rfl rfl (y_ext rfl rfl) ?_
    refine vc_y rfl rfl (y_as rfl) ?_
    refine vc_e (e_st st 1 rfl rfl rfl rfl Tryd.sizeOf27 rfl rfl (by first | (right; assumption) | (left; simp)) ?_)
    intro w st; dsimp only [setNth, wr] at st
    refine vc_e (e_sts (vs := [_, _]) st 0 rfl rfl rfl rfl rfl Tryd.sizeOf29 rfl rfl (by first | (right; assumption) | (left; simp)) ?_)
    intro w st; dsimp only [setNth, wr] at st
    refine vc_end ?_
    refine vq_then ?_
    refine vc_keep [(2, _), (3, _), (4, _), (5, _)] ⟨rfl, rfl, rfl, rfl, trivial⟩ ?_
    refine vc_seq ?_
    refine vc_seq ?_
    refine vc_region ?_
    refine vc_y rfl rfl ((by exact y_ld st 1 rfl Tryd.isAgg27 rfl rfl)) ?_
    refine vc_y rfl rfl (y_nei rfl rfl) ?_
    refine vc_end ?_
    refine vq_then ?_
    refine vc_keep [(2, _), (3, _), (4, _), (5, _), (14, _)] ⟨rfl, rfl, rfl, rfl, rfl, trivial⟩ ?_
    refine vc_ifs rfl ?_ ?_
    · intro hc14
      try simp only [dn] at hc14
      refine vc_seq ?_
      refine vc_noPan ?_
      refine vc_draw Tryd.mixed [(0, true), (1, true), (2, true), (3, false), (4, false), (5, false)] (fun w => St _ _ _ w) st (by kernel_rfl) (by repeat (first | exact okQ_noPan | exact okQ_body | exact okQ_bodyS | refine okQ_then ?_ | refine okQ_block ?_)) rfl (by kernel_rfl) ?_
      intro w cd; replace st := st.call0 cd; clear cd
      have hS := st
      refine vp_take rfl rfl rfl hS (fun w st => (by exact y_lda (vs := [_, _, _, _, _, _]) st 2 rfl Tryd.isAgg26 Tryd.sizeOf26 rfl rfl)) ?_
      refine vp_take rfl rfl rfl hS (fun w st => (by exact y_ld st 1 rfl Tryd.isAgg27 rfl rfl)) ?_
      refine vp_take rfl rfl rfl hS (fun w st => (by exact y_lda (vs := [_, _]) st 0 rfl Tryd.isAgg29 Tryd.sizeOf29 rfl rfl)) ?_
      refine vp_do rfl (e_sts (vs := [_, _, _, _, _, _]) st 2 rfl rfl rfl rfl rfl Tryd.sizeOf26 rfl rfl (by first | (right; assumption) | (left; simp)) ?_)
      intro w st; dsimp only [setNth, wr] at st
      refine vp_next (by exact st) ?_; intro hS
      refine vp_do rfl (e_st st 1 rfl rfl rfl rfl Tryd.sizeOf27 rfl rfl (by first | (right; assumption) | (left; simp)) ?_)
      intro w st; dsimp only [setNth, wr] at st
      refine vp_next (by exact st) ?_; intro hS
      refine vp_do rfl (e_sts (vs := [_, _]) st 0 rfl rfl rfl rfl rfl Tryd.sizeOf29 rfl rfl (by first | (right; assumption) | (left; simp)) ?_)
      intro w st; dsimp only [setNth, wr] at st
      refine vp_next (by exact st) ?_; intro hS
      refine vp_end ?_
      refine vq_noPan ?_
      refine vq_then ?_
      refine vc_keep [(2, _), (3, _), (4, _)] ⟨rfl, rfl, rfl, trivial⟩ ?_
      refine vc_ret ?_
      refine vq_then_ret ?_
      refine vqd_post (.inl rfl) (results3 st Tryd.results8 (.cell 2 rfl rfl Tryd.isAgg26 Tryd.sizeOf26) (.cell1 1 rfl rfl Tryd.isAgg27 rfl) (.cell 0 rfl rfl Tryd.isAgg29 Tryd.sizeOf29)) ?_
      refine ⟨_, rfl, st.chg, ?_⟩
      rw [hpr]
      exact ⟨_, he_none _ _, rfl⟩
    · intro hc14
      exact absurd hc14 (by decide)
  · replace st := st.pnew cw hn
    have hpr : exprRes s = match exprP c.e 64 c.ts with | .error f => (ex0, 30, f.1, f.2) | .ok (x, r) => if r.length = 0 then (x, 0, 0, 0) else (ex0, 30, atT c.e r, 2) := by
      unfold exprRes; rw [if_neg (by omega), hfr, hn.e, hn.ts]
      try rfl
    refine vc_y rfl rfl (y_mv rfl) ?_
    refine vc_y rfl rfl (y_ext rfl rfl) ?_
    refine vc_y rfl rfl (y_ext rfl rfl) ?_
    refine vc_y rfl rfl (y_ext rfl rfl) ?_
    refine vc_y rfl rfl (y_as rfl) ?_
    refine vc_e (e_st st 3 rfl rfl rfl rfl Tryd.sizeOf27 rfl rfl (by first | (right; assumption) | (left; simp)) ?_)
    intro w st; dsimp only [setNth, wr] at st
    refine vc_e (e_sts (vs := [_, _]) st 2 rfl rfl rfl rfl rfl Tryd.sizeOf29 rfl rfl (by first | (right; assumption) | (left; simp)) ?_)
    intro w st; dsimp only [setNth, wr] at st
    refine vc_end ?_
    refine vq_then ?_
    refine vc_keep [(2, _), (3, _), (4, _), (5, _)] ⟨rfl, rfl, rfl, rfl, trivial⟩ ?_
    refine vc_seq ?_
    refine vc_seq ?_
    refine vc_region ?_
    refine vc_y rfl rfl ((by exact y_ld st 3 rfl Tryd.isAgg27 rfl rfl)) ?_
    refine vc_y rfl rfl (y_nei rfl rfl) ?_
    refine vc_end ?_
    refine vq_then ?_
    refine vc_keep [(2, _), (3, _), (4, _), (5, _), (14, _)] ⟨rfl, rfl, rfl, rfl, rfl, trivial⟩ ?_
    refine vc_ifs rfl ?_ ?_
    · intro hc14
      exact absurd hc14 (by decide)
    · intro hc14
      try simp only [dn] at hc14
      refine vc_code_skip ?_
      refine vq_then ?_
      refine vc_keep [(2, _), (3, _), (4, _), (5, _)] ⟨rfl, rfl, rfl, rfl, trivial⟩ ?_
      refine vc_seq ?_
      refine vc_region ?_
      refine vc_y rfl rfl (y_mf [] [_, _, _] rfl rfl) ?_
      refine vc_e (e_deferV rfl rfl rfl ?_)
      refine vc_end ?_
      refine vq_then ?_
      refine vc_keep [(2, _), (3, _), (4, _), (5, _)] ⟨rfl, rfl, rfl, rfl, trivial⟩ ?_
      refine vc_seq ?_
      refine vc_region ?_
      refine vc_y rfl rfl (y_mv rfl) ?_
      refine vc_e (e_callk [_, _] rfl rfl Tryd.call29 rfl (pexpr_any c hn.R hn.g c.ts (List.suffix_refl _) _ (hn.ok (st.res (i := 1) rfl) (hsg.kept st.chg (by simp)) (st.res (i := 0) rfl) (Nat.lt_of_lt_of_le h0 hw1)) (st.res (i := 0) rfl)) (by
          rintro _ w' ⟨f, hf, rfl, ch⟩
          obtain ⟨o', ho'⟩ : ∃ o', w'.heap[c.pb]? = some o' := ⟨_, Array.getElem?_eq_getElem (Nat.lt_of_lt_of_le (Array.getElem?_eq_some_iff.1 (st.res (i := 0) rfl)).1 ch.size)⟩
          have st' := St.prs (b := c.pb) st 0 rfl ch (.inr (Nat.le_trans hw1 hn.le)) ho'
          dsimp only [setNth] at st'
          rw [show refV c f = .iface 65 (.agg #[.int .i64 (f.1 : Int), .int .i64 (f.2 : Int)]) by rw [refV, hn.R]]
          exact expr_pan (st'.res (i := 4) rfl) (st'.res (i := 3) rfl) (st'.res (i := 2) rfl) n23 n24 n34 hb2 hb3 hb4 st'.chg (by rw [hpr, hf]) rfl rfl rfl) ?_)
      rintro _ w ⟨x, r1, hx, hsf, hln, hP1, cw, oq, cq, Sq, rfl, hT, hN⟩
      have hw2 := st.chg.size
      replace st := St.prsT (b := c.pb) st 0 rfl cw (.inr (Nat.le_trans hw1 hn.le)) hP1 (holds_ex hT) hN.2
      dsimp only [setNth] at st
      rw [hx] at hpr
      dsimp only at hpr
      have hsl := suf_len hsf
      refine vc_e (e_al (l := [_, _, _, _, _, _]) st rfl rfl Tryd.zeroValue26 rfl ?_)
      intro b6 w hb6 st
      refine vc_e (e_sts (vs := [_, _, _, _, _, _]) st 0 rfl rfl rfl rfl rfl Tryd.sizeOf26 rfl rfl (by first | (right; assumption) | (left; simp)) ?_)
      intro w st; dsimp only [setNth, wr] at st
      refine vc_end ?_
      refine vq_then ?_
      refine vc_keep [(2, _), (3, _), (4, _), (5, _), (6, _)] ⟨rfl, rfl, rfl, rfl, rfl, trivial⟩ ?_
      refine vc_seq ?_
      refine vc_seq ?_
      refine vc_noPan ?_
      refine vc_draw Tryd.mixed [(0, true), (1, true), (2, true), (3, true), (4, true), (5, true), (6, true), (7, true), (8, true), (9, true)] (fun w => St _ _ _ w) st (by kernel_rfl) (by repeat (first | exact okQ_noPan | exact okQ_body | exact okQ_bodyS | refine okQ_then ?_ | refine okQ_block ?_)) rfl (by kernel_rfl) ?_
      intro w cd; replace st := st.call0 cd; clear cd
      have hS := st
      refine vp_take rfl rfl rfl hS (fun w st => y_mv rfl) ?_
      refine vp_take rfl rfl rfl hS (fun w st => y_nck rfl) ?_
      refine vp_take rfl rfl rfl hS (fun w st => (by exact y_faz (k := 1) rfl Tryd.underlying68 rfl rfl Tryd.sizeOf3 rfl)) ?_
      refine vp_take rfl rfl rfl hS (fun w st => (by exact y_ld st 2 rfl Tryd.isAgg3 rfl rfl)) ?_
      refine vp_take rfl rfl rfl hS (fun w st => y_mv rfl) ?_
      refine vp_take rfl rfl rfl hS (fun w st => y_nck rfl) ?_
      refine vp_take rfl rfl rfl hS (fun w st => y_fa0 rfl Tryd.underlying68 rfl rfl Tryd.sizeOf47 rfl) ?_
      refine vp_take rfl rfl rfl hS (fun w st => (by exact y_ld st 2 rfl Tryd.isAgg47 rfl rfl)) ?_
      refine vp_take rfl rfl rfl hS (fun w st => y_lensl rfl Tryd.underlying47) ?_
      refine vp_take rfl rfl rfl hS (fun w st => y_lss rfl rfl) ?_
      refine vp_end ?_
      refine vq_noPan ?_
      refine vq_then ?_
      refine vc_keep [(2, _), (3, _), (4, _), (5, _), (6, _), (30, _)] ⟨rfl, rfl, rfl, rfl, rfl, rfl, trivial⟩ ?_
      refine vc_ifs rfl ?_ ?_
      · intro hc30
        try simp only [dn] at hc30
        have hr0 : 0 < r1.length := by omega
        refine vc_region ?_
        refine vc_y rfl rfl (y_mv rfl) ?_
        refine vc_e (e_callk [_, _] rfl rfl Tryd.call30 rfl (pfail_any c 2 r1 hsf _ (hn.ok (st.res (i := 3) rfl) (hsg.kept st.chg (by simp)) (st.res (i := 2) rfl) (Nat.lt_of_lt_of_le h0 hw1)) (st.res (i := 2) rfl) hn.R) (by
            rintro _ w' ⟨rfl, ch⟩
            rw [show refV c (atT c.e r1, 2) = .iface 65 (.agg #[.int .i64 (atT c.e r1 : Int), .int .i64 (2 : Nat)]) by rw [refV, hn.R]]
            have st' := st.call0 ch
            exact expr_pan (f := (atT c.e r1, 2)) (st'.res (i := 6) rfl) (st'.res (i := 5) rfl) (st'.res (i := 4) rfl) n23 n24 n34 hb2 hb3 hb4 st'.chg (by rw [hpr, if_neg (by omega)]) rfl rfl rfl) (fun _ _ h => h.elim))
      · intro hc30
        try simp only [dn] at hc30
        have hr0 : r1.length = 0 := by omega
        refine vc_code_skip ?_
        refine vq_then ?_
        refine vc_keep [(2, _), (3, _), (4, _), (6, _)] ⟨rfl, rfl, rfl, rfl, trivial⟩ ?_
        refine vc_seq ?_
        refine vc_region ?_
        refine vc_y rfl rfl ((by exact y_lda (vs := [_, _, _, _, _, _]) st 0 rfl Tryd.isAgg26 Tryd.sizeOf26 rfl rfl)) ?_
        refine vc_y rfl rfl (y_bld (.agg #[_, _]) [] rfl (fun w => by simp [Instr.build, go_sem] <;> repeat' constructor)) ?_
        refine vc_e (e_sts (vs := [_, _, _, _, _, _]) st 6 rfl rfl rfl rfl rfl Tryd.sizeOf26 rfl rfl (by first | (right; assumption) | (left; simp)) ?_)
        intro w st; dsimp only [setNth, wr] at st
        refine vc_e (e_st st 5 rfl rfl rfl rfl Tryd.sizeOf27 rfl rfl (by first | (right; assumption) | (left; simp)) ?_)
        intro w st; dsimp only [setNth, wr] at st
        refine vc_e (e_sts (vs := [_, _]) st 4 rfl rfl rfl rfl rfl Tryd.sizeOf29 rfl rfl (by first | (right; assumption) | (left; simp)) ?_)
        intro w st; dsimp only [setNth, wr] at st
        refine vc_end ?_
        refine vq_then ?_
        refine vc_keep [(2, _), (3, _), (4, _)] ⟨rfl, rfl, rfl, trivial⟩ ?_
        refine vc_ret ?_
        refine vqd_ret (.inl rfl) Tryd.call28 (expr_idle [.pointer (some ⟨b2, 0, none⟩), .pointer (some ⟨b3, 0, none⟩), .pointer (some ⟨b4, 0, none⟩)] rfl _) (fun w2 e2 => ?_)
        subst e2
        refine ⟨_, results3 st Tryd.results8 (.cell 6 rfl rfl Tryd.isAgg26 Tryd.sizeOf26) (.cell1 5 rfl rfl Tryd.isAgg27 rfl) (.cell 4 rfl rfl Tryd.isAgg29 Tryd.sizeOf29), _, rfl, st.chg, ?_⟩
        rw [hpr, if_pos hr0]
        exact ⟨_, ⟨oq, cq, Sq, rfl, (st.res (i := 1) rfl).1, hN.le hw2⟩, rfl⟩

end Go.Proofs.YtggnfanphcaamaaDoor


namespace Go.Proofs.YtggnfanphcaamaaDoor
open Go.RowKit Sx LexS
set_option linter.unusedVariables false
set_option linter.unusedSimpArgs false
theorem all_take_succ {p : UInt8 → Bool} {l : List UInt8} {m : Nat} (hm : m < l.length) (h : (l.take m).all p = true) (hp : p (l.getD m 0) = true) : (l.take (m + 1)).all p = true := by
  rw [List.take_add_one]
  have : l[m]? = some (l.getD m 0) := by simp [List.getD, hm]
  rw [this]
  simp only [List.all_append, h, Option.toList_some, List.all_cons, hp, List.all_nil, Bool.and_self]
theorem all_no {p : UInt8 → Bool} {l : List UInt8} {m : Nat} (hm : m < l.length) (hp : p (l.getD m 0) = false) : l.all p = false := by
  rw [List.all_eq_false]
  refine ⟨l.getD m 0, ?_, by rw [hp]; simp⟩
  rw [show l.getD m 0 = l[m] from by simp [List.getD, hm]]
  exact List.getElem_mem hm
theorem isSign_ref {l : List UInt8} : isSign l = decide (l = [40] ∨ l = [41] ∨ l = [123] ∨ l = [125] ∨ l = [44] ∨ l = [59] ∨ l = [61] ∨ l = [43] ∨ l = [45] ∨ l = [42] ∨ l = [47] ∨ l = [37] ∨ l = [38] ∨ l = [124] ∨ l = [94] ∨ l = [33] ∨ l = [60] ∨ l = [62] ∨
    l = [61, 61] ∨ l = [33, 61] ∨ l = [60, 61] ∨ l = [62, 61] ∨ l = [60, 60] ∨ l = [62, 62]) := by
  match l with
  | [] => rfl
  | [c] => 
    have h2 : isSign2 [c] = false := by simp [isSign2]
    rw [Bool.eq_iff_iff]
    simp [isSign, h2, isSign1, signs1]
  | a :: b :: r =>
    have h1 : isSign1 (a :: b :: r) = false := rfl
    simp only [isSign, h1, Bool.or_false, isSign2]
    congr 1
    simp

set_option maxHeartbeats 2000000 in
theorem rsign_any (l : List UInt8) (w : World) : Ret Tryd.prog 106 [str l] w fun v w' => v = .bool (isSign l) ∧ w' = w := by
  refine ret_of [_] Tryd.func106 rfl Tryd.ntmps106 rfl ?_
  have st := St.init w []
  refine vc_seq ?_
  refine vc_region ?_
  refine vc_y rfl rfl (y_as rfl) ?_
  refine vc_end ?_
  refine vq_then ?_
  refine vc_keep [(0, _)] ⟨rfl, trivial⟩ ?_
  refine vc_seq ?_
  refine vc_seq ?_
  refine vc_region ?_
  refine vc_y rfl rfl (y_mv rfl) ?_
  refine vc_end ?_
  refine vq_then ?_
  refine vc_keep [(3, _)] ⟨rfl, trivial⟩ ?_
  refine vc_block ?_
  refine vc_seq ?_
  refine vc_seq ?_
  refine vc_region ?_
  refine vc_y rfl rfl (y_eqs rfl rfl) ?_
  refine vc_y rfl rfl (y_as rfl) ?_
  refine vc_end ?_
  refine vq_then ?_
  refine vc_keep [(3, _), (4, _)] ⟨rfl, rfl, trivial⟩ ?_
  refine vc_ifs rfl ?_ ?_
  · intro hc4
    try simp only [dn] at hc4
    refine vc_code_skip ?_
    refine vq_then ?_
    refine vc_keep [(4, _)] ⟨rfl, trivial⟩ ?_
    refine vc_ift rfl ?_
    refine vc_seq ?_
    refine vc_region ?_
    refine vc_y rfl rfl (y_as rfl) ?_
    refine vc_end ?_
    refine vq_then ?_
    refine vc_keep [(2, _)] ⟨rfl, trivial⟩ ?_
    refine vc_ret ?_
    refine vq_block_ret ?_
    refine vq_then_ret ?_
    refine vq_ret1 st (.inl rfl) Tryd.results106 (.tmp rfl) ?_
    refine ⟨_, rfl, ?_⟩
    refine ⟨?_, rfl⟩
    rw [Value.bool.injEq, isSign_ref]
    first
    | (symm; simp only [decide_eq_true_eq]; simp only [*, true_or, or_true]; done)
    | (symm; simp only [decide_eq_false_iff_not]; simp only [*, or_self, not_false_eq_true])
  · intro hc4
    try simp only [dn] at hc4
    refine vc_seq ?_
    refine vc_region ?_
    refine vc_y rfl rfl (y_eqs rfl rfl) ?_
    refine vc_y rfl rfl (y_as rfl) ?_
    refine vc_end ?_
    refine vq_then ?_
    refine vc_keep [(3, _), (4, _)] ⟨rfl, rfl, trivial⟩ ?_
    refine vc_ifs rfl ?_ ?_
    · intro hc4
      try simp only [dn] at hc4
      refine vc_code_skip ?_
      refine vq_then ?_
      refine vc_keep [(4, _)] ⟨rfl, trivial⟩ ?_
      refine vc_ift rfl ?_
      refine vc_seq ?_
      refine vc_region ?_
      refine vc_y rfl rfl (y_as rfl) ?_
      refine vc_end ?_
      refine vq_then ?_
      refine vc_keep [(2, _)] ⟨rfl, trivial⟩ ?_
      refine vc_ret ?_
      refine vq_block_ret ?_
      refine vq_then_ret ?_
      refine vq_ret1 st (.inl rfl) Tryd.results106 (.tmp rfl) ?_
      refine ⟨_, rfl, ?_⟩
      refine ⟨?_, rfl⟩
      rw [Value.bool.injEq, isSign_ref]
      first
      | (symm; simp only [decide_eq_true_eq]; simp only [*, true_or, or_true]; done)
      | (symm; simp only [decide_eq_false_iff_not]; simp only [*, or_self, not_false_eq_true])
    · intro hc4
      try simp only [dn] at hc4
      refine vc_seq ?_
      refine vc_region ?_
      refine vc_y rfl rfl (y_eqs rfl rfl) ?_
      refine vc_y rfl rfl (y_as rfl) ?_
      refine vc_end ?_
      refine vq_then ?_
      refine vc_keep [(3, _), (4, _)] ⟨rfl, rfl, trivial⟩ ?_
      refine vc_ifs rfl ?_ ?_
      · intro hc4
        try simp only [dn] at hc4
        refine vc_code_skip ?_
        refine vq_then ?_
        refine vc_keep [(4, _)] ⟨rfl, trivial⟩ ?_
        refine vc_ift rfl ?_
        refine vc_seq ?_
        refine vc_region ?_
        refine vc_y rfl rfl (y_as rfl) ?_
        refine vc_end ?_
        refine vq_then ?_
        refine vc_keep [(2, _)] ⟨rfl, trivial⟩ ?_
        refine vc_ret ?_
        refine vq_block_ret ?_
        refine vq_then_ret ?_
        refine vq_ret1 st (.inl rfl) Tryd.results106 (.tmp rfl) ?_
        refine ⟨_, rfl, ?_⟩
        refine ⟨?_, rfl⟩
        rw [Value.bool.injEq, isSign_ref]
        first
        | (symm; simp only [decide_eq_true_eq]; simp only [*, true_or, or_true]; done)
        | (symm; simp only [decide_eq_false_iff_not]; simp only [*, or_self, not_false_eq_true])
      · intro hc4
        try simp only [dn] at hc4
        refine vc_seq ?_
        refine vc_region ?_
        refine vc_y rfl rfl (y_eqs rfl rfl) ?_
        refine vc_y rfl rfl (y_as rfl) ?_
        refine vc_end ?_
        refine vq_then ?_
        refine vc_keep [(3, _), (4, _)] ⟨rfl, rfl, trivial⟩ ?_
        refine vc_ifs rfl ?_ ?_
        · intro hc4
          try simp only [dn] at hc4
          refine vc_code_skip ?_
          refine vq_then ?_
          refine vc_keep [(4, _)] ⟨rfl, trivial⟩ ?_
          refine vc_ift rfl ?_
          refine vc_seq ?_
          refine vc_region ?_
          refine vc_y rfl rfl (y_as rfl) ?_
          refine vc_end ?_
          refine vq_then ?_
          refine vc_keep [(2, _)] ⟨rfl, trivial⟩ ?_
          refine vc_ret ?_
          refine vq_block_ret ?_
          refine vq_then_ret ?_
          refine vq_ret1 st (.inl rfl) Tryd.results106 (.tmp rfl) ?_
          refine ⟨_, rfl, ?_⟩
          refine ⟨?_, rfl⟩
          rw [Value.bool.injEq, isSign_ref]
          first
          | (symm; simp only [decide_eq_true_eq]; simp only [*, true_or, or_true]; done)
          | (symm; simp only [decide_eq_false_iff_not]; simp only [*, or_self, not_false_eq_true])
        · intro hc4
          try simp only [dn] at hc4
          refine vc_seq ?_
          refine vc_region ?_
          refine vc_y rfl rfl (y_eqs rfl rfl) ?_
          refine vc_y rfl rfl (y_as rfl) ?_
          refine vc_end ?_
          refine vq_then ?_
          refine vc_keep [(3, _), (4, _)] ⟨rfl, rfl, trivial⟩ ?_
          refine vc_ifs rfl ?_ ?_
          · intro hc4
            try simp only [dn] at hc4
            refine vc_code_skip ?_
            refine vq_then ?_
            refine vc_keep [(4, _)] ⟨rfl, trivial⟩ ?_
            refine vc_ift rfl ?_
            refine vc_seq ?_
            refine vc_region ?_
            refine vc_y rfl rfl (y_as rfl) ?_
            refine vc_end ?_
            refine vq_then ?_
            refine vc_keep [(2, _)] ⟨rfl, trivial⟩ ?_
            refine vc_ret ?_
            refine vq_block_ret ?_
            refine vq_then_ret ?_
            refine vq_ret1 st (.inl rfl) Tryd.results106 (.tmp rfl) ?_
            refine ⟨_, rfl, ?_⟩
            refine ⟨?_, rfl⟩
            rw [Value.bool.injEq, isSign_ref]
            first
            | (symm; simp only [decide_eq_true_eq]; simp only [*, true_or, or_true]; done)
            | (symm; simp only [decide_eq_false_iff_not]; simp only [*, or_self, not_false_eq_true])
          · intro hc4
            try simp only [dn] at hc4
            refine vc_seq ?_
            refine vc_region ?_
            refine vc_y rfl rfl (y_eqs rfl rfl) ?_
            refine vc_y rfl rfl (y_as rfl) ?_
            refine vc_end ?_
            refine vq_then ?_
            refine vc_keep [(3, _), (4, _)] ⟨rfl, rfl, trivial⟩ ?_
            refine vc_ifs rfl ?_ ?_
            · intro hc4
              try simp only [dn] at hc4
              refine vc_code_skip ?_
              refine vq_then ?_
              refine vc_keep [(4, _)] ⟨rfl, trivial⟩ ?_
              refine vc_ift rfl ?_
              refine vc_seq ?_
              refine vc_region ?_
              refine vc_y rfl rfl (y_as rfl) ?_
              refine vc_end ?_
              refine vq_then ?_
              refine vc_keep [(2, _)] ⟨rfl, trivial⟩ ?_
              refine vc_ret ?_
              refine vq_block_ret ?_
              refine vq_then_ret ?_
              refine vq_ret1 st (.inl rfl) Tryd.results106 (.tmp rfl) ?_
              refine ⟨_, rfl, ?_⟩
              refine ⟨?_, rfl⟩
              rw [Value.bool.injEq, isSign_ref]
              first
              | (symm; simp only [decide_eq_true_eq]; simp only [*, true_or, or_true]; done)
              | (symm; simp only [decide_eq_false_iff_not]; simp only [*, or_self, not_false_eq_true])
            · intro hc4
              try simp only [dn] at hc4
              refine vc_seq ?_
              refine vc_region ?_
              refine vc_y rfl rfl (y_eqs rfl rfl) ?_
              refine vc_y rfl rfl (y_as rfl) ?_
              refine vc_end ?_
              refine vq_then ?_
              refine vc_keep [(3, _), (4, _)] ⟨rfl, rfl, trivial⟩ ?_
              refine vc_ifs rfl ?_ ?_
              · intro hc4
                try simp only [dn] at hc4
                refine vc_code_skip ?_
                refine vq_then ?_
                refine vc_keep [(4, _)] ⟨rfl, trivial⟩ ?_
                refine vc_ift rfl ?_
                refine vc_seq ?_
                refine vc_region ?_
                refine vc_y rfl rfl (y_as rfl) ?_
                refine vc_end ?_
                refine vq_then ?_
                refine vc_keep [(2, _)] ⟨rfl, trivial⟩ ?_
                refine vc_ret ?_
                refine vq_block_ret ?_
                refine vq_then_ret ?_
                refine vq_ret1 st (.inl rfl) Tryd.results106 (.tmp rfl) ?_
                refine ⟨_, rfl, ?_⟩
                refine ⟨?_, rfl⟩
                rw [Value.bool.injEq, isSign_ref]
                first
                | (symm; simp only [decide_eq_true_eq]; simp only [*, true_or, or_true]; done)
                | (symm; simp only [decide_eq_false_iff_not]; simp only [*, or_self, not_false_eq_true])
              · intro hc4
                try simp only [dn] at hc4
                refine vc_seq ?_
                refine vc_region ?_
                refine vc_y rfl rfl (y_eqs rfl rfl) ?_
                refine vc_y rfl rfl (y_as rfl) ?_
                refine vc_end ?_
                refine vq_then ?_
                refine vc_keep [(3, _), (4, _)] ⟨rfl, rfl, trivial⟩ ?_
                refine vc_ifs rfl ?_ ?_
                · intro hc4
                  try simp only [dn] at hc4
                  refine vc_code_skip ?_
                  refine vq_then ?_
                  refine vc_keep [(4, _)] ⟨rfl, trivial⟩ ?_
                  refine vc_ift rfl ?_
                  refine vc_seq ?_
                  refine vc_region ?_
                  refine vc_y rfl rfl (y_as rfl) ?_
                  refine vc_end ?_
                  refine vq_then ?_
                  refine vc_keep [(2, _)] ⟨rfl, trivial⟩ ?_
                  refine vc_ret ?_
                  refine vq_block_ret ?_
                  refine vq_then_ret ?_
                  refine vq_ret1 st (.inl rfl) Tryd.results106 (.tmp rfl) ?_
                  refine ⟨_, rfl, ?_⟩
                  refine ⟨?_, rfl⟩
                  rw [Value.bool.injEq, isSign_ref]
                  first
                  | (symm; simp only [decide_eq_true_eq]; simp only [*, true_or, or_true]; done)
                  | (symm; simp only [decide_eq_false_iff_not]; simp only [*, or_self, not_false_eq_true])
                · intro hc4
                  try simp only [dn] at hc4
                  refine vc_seq ?_
                  refine vc_region ?_
                  refine vc_y rfl rfl (y_eqs rfl rfl) ?_
                  refine vc_y rfl rfl (y_as rfl) ?_
                  refine vc_end ?_
                  refine vq_then ?_
                  refine vc_keep [(3, _), (4, _)] ⟨rfl, rfl, trivial⟩ ?_
                  refine vc_ifs rfl ?_ ?_
                  · intro hc4
                    try simp only [dn] at hc4
                    refine vc_code_skip ?_
                    refine vq_then ?_
                    refine vc_keep [(4, _)] ⟨rfl, trivial⟩ ?_
                    refine vc_ift rfl ?_
                    refine vc_seq ?_
                    refine vc_region ?_
                    refine vc_y rfl rfl (y_as rfl) ?_
                    refine vc_end ?_
                    refine vq_then ?_
                    refine vc_keep [(2, _)] ⟨rfl, trivial⟩ ?_
                    refine vc_ret ?_
                    refine vq_block_ret ?_
                    refine vq_then_ret ?_
                    refine vq_ret1 st (.inl rfl) Tryd.results106 (.tmp rfl) ?_
                    refine ⟨_, rfl, ?_⟩
                    refine ⟨?_, rfl⟩
                    rw [Value.bool.injEq, isSign_ref]
                    first
                    | (symm; simp only [decide_eq_true_eq]; simp only [*, true_or, or_true]; done)
                    | (symm; simp only [decide_eq_false_iff_not]; simp only [*, or_self, not_false_eq_true])
                  · intro hc4
                    try simp only [dn] at hc4
                    refine vc_seq ?_
                    refine vc_region ?_
                    refine vc_y rfl rfl (y_eqs rfl rfl) ?_
                    refine vc_y rfl rfl (y_as rfl) ?_
                    refine vc_end ?_
                    refine vq_then ?_
                    refine vc_keep [(3, _), (4, _)] ⟨rfl, rfl, trivial⟩ ?_
                    refine vc_ifs rfl ?_ ?_
                    · intro hc4
                      try simp only [dn] at hc4
                      refine vc_code_skip ?_
                      refine vq_then ?_
                      refine vc_keep [(4, _)] ⟨rfl, trivial⟩ ?_
                      refine vc_ift rfl ?_
                      refine vc_seq ?_
                      refine vc_region ?_
                      refine vc_y rfl rfl (y_as rfl) ?_
                      refine vc_end ?_
                      refine vq_then ?_
                      refine vc_keep [(2, _)] ⟨rfl, trivial⟩ ?_
                      refine vc_ret ?_
                      refine vq_block_ret ?_
                      refine vq_then_ret ?_
                      refine vq_ret1 st (.inl rfl) Tryd.results106 (.tmp rfl) ?_
                      refine ⟨_, rfl, ?_⟩
                      refine ⟨?_, rfl⟩
                      rw [Value.bool.injEq, isSign_ref]
                      first
                      | (symm; simp only [decide_eq_true_eq]; simp only [*, true_or, or_true]; done)
                      | (symm; simp only [decide_eq_false_iff_not]; simp only [*, or_self, not_false_eq_true])
                    · intro hc4
                      try simp only [dn] at hc4
                      refine vc_seq ?_
                      refine vc_region ?_
                      refine vc_y rfl rfl (y_eqs rfl rfl) ?_
                      refine vc_y rfl rfl (y_as rfl) ?_
                      refine vc_end ?_
                      refine vq_then ?_
                      refine vc_keep [(3, _), (4, _)] ⟨rfl, rfl, trivial⟩ ?_
                      refine vc_ifs rfl ?_ ?_
                      · intro hc4
                        try simp only [dn] at hc4
                        refine vc_code_skip ?_
                        refine vq_then ?_
                        refine vc_keep [(4, _)] ⟨rfl, trivial⟩ ?_
                        refine vc_ift rfl ?_
                        refine vc_seq ?_
                        refine vc_region ?_
                        refine vc_y rfl rfl (y_as rfl) ?_
                        refine vc_end ?_
                        refine vq_then ?_
                        refine vc_keep [(2, _)] ⟨rfl, trivial⟩ ?_
                        refine vc_ret ?_
                        refine vq_block_ret ?_
                        refine vq_then_ret ?_
                        refine vq_ret1 st (.inl rfl) Tryd.results106 (.tmp rfl) ?_
                        refine ⟨_, rfl, ?_⟩
                        refine ⟨?_, rfl⟩
                        rw [Value.bool.injEq, isSign_ref]
                        first
                        | (symm; simp only [decide_eq_true_eq]; simp only [*, true_or, or_true]; done)
                        | (symm; simp only [decide_eq_false_iff_not]; simp only [*, or_self, not_false_eq_true])
                      · intro hc4
                        try simp only [dn] at hc4
                        refine vc_seq ?_
                        refine vc_region ?_
                        refine vc_y rfl rfl (y_eqs rfl rfl) ?_
                        refine vc_y rfl rfl (y_as rfl) ?_
                        refine vc_end ?_
                        refine vq_then ?_
                        refine vc_keep [(3, _), (4, _)] ⟨rfl, rfl, trivial⟩ ?_
                        refine vc_ifs rfl ?_ ?_
                        · intro hc4
                          try simp only [dn] at hc4
                          refine vc_code_skip ?_
                          refine vq_then ?_
                          refine vc_keep [(4, _)] ⟨rfl, trivial⟩ ?_
                          refine vc_ift rfl ?_
                          refine vc_seq ?_
                          refine vc_region ?_
                          refine vc_y rfl rfl (y_as rfl) ?_
                          refine vc_end ?_
                          refine vq_then ?_
                          refine vc_keep [(2, _)] ⟨rfl, trivial⟩ ?_
                          refine vc_ret ?_
                          refine vq_block_ret ?_
                          refine vq_then_ret ?_
                          refine vq_ret1 st (.inl rfl) Tryd.results106 (.tmp rfl) ?_
                          refine ⟨_, rfl, ?_⟩
                          refine ⟨?_, rfl⟩
                          rw [Value.bool.injEq, isSign_ref]
                          first
                          | (symm; simp only [decide_eq_true_eq]; simp only [*, true_or, or_true]; done)
                          | (symm; simp only [decide_eq_false_iff_not]; simp only [*, or_self, not_false_eq_true])
                        · intro hc4
                          try simp only [dn] at hc4
                          refine vc_seq ?_
                          refine vc_region ?_
                          refine vc_y rfl rfl (y_eqs rfl rfl) ?_
                          refine vc_y rfl rfl (y_as rfl) ?_
                          refine vc_end ?_
                          refine vq_then ?_
                          refine vc_keep [(3, _), (4, _)] ⟨rfl, rfl, trivial⟩ ?_
                          refine vc_ifs rfl ?_ ?_
                          · intro hc4
                            try simp only [dn] at hc4
                            refine vc_code_skip ?_
                            refine vq_then ?_
                            refine vc_keep [(4, _)] ⟨rfl, trivial⟩ ?_
                            refine vc_ift rfl ?_
                            refine vc_seq ?_
                            refine vc_region ?_
                            refine vc_y rfl rfl (y_as rfl) ?_
                            refine vc_end ?_
                            refine vq_then ?_
                            refine vc_keep [(2, _)] ⟨rfl, trivial⟩ ?_
                            refine vc_ret ?_
                            refine vq_block_ret ?_
                            refine vq_then_ret ?_
                            refine vq_ret1 st (.inl rfl) Tryd.results106 (.tmp rfl) ?_
                            refine ⟨_, rfl, ?_⟩
                            refine ⟨?_, rfl⟩
                            rw [Value.bool.injEq, isSign_ref]
                            first
                            | (symm; simp only [decide_eq_true_eq]; simp only [*, true_or, or_true]; done)
                            | (symm; simp only [decide_eq_false_iff_not]; simp only [*, or_self, not_false_eq_true])
                          · intro hc4
                            try simp only [dn] at hc4
                            refine vc_seq ?_
                            refine vc_region ?_
                            refine vc_y rfl rfl (y_eqs rfl rfl) ?_
                            refine vc_y rfl rfl (y_as rfl) ?_
                            refine vc_end ?_
                            refine vq_then ?_
                            refine vc_keep [(3, _), (4, _)] ⟨rfl, rfl, trivial⟩ ?_
                            refine vc_ifs rfl ?_ ?_
                            · intro hc4
                              try simp only [dn] at hc4
                              refine vc_code_skip ?_
                              refine vq_then ?_
                              refine vc_keep [(4, _)] ⟨rfl, trivial⟩ ?_
                              refine vc_ift rfl ?_
                              refine vc_seq ?_
                              refine vc_region ?_
                              refine vc_y rfl rfl (y_as rfl) ?_
                              refine vc_end ?_
                              refine vq_then ?_
                              refine vc_keep [(2, _)] ⟨rfl, trivial⟩ ?_
                              refine vc_ret ?_
                              refine vq_block_ret ?_
                              refine vq_then_ret ?_
                              refine vq_ret1 st (.inl rfl) Tryd.results106 (.tmp rfl) ?_
                              refine ⟨_, rfl, ?_⟩
                              refine ⟨?_, rfl⟩
                              rw [Value.bool.injEq, isSign_ref]
                              first
                              | (symm; simp only [decide_eq_true_eq]; simp only [*, true_or, or_true]; done)
                              | (symm; simp only [decide_eq_false_iff_not]; simp only [*, or_self, not_false_eq_true])
                            · intro hc4
                              try simp only [dn] at hc4
                              refine vc_seq ?_
                              refine vc_region ?_
                              refine vc_y rfl rfl (y_eqs rfl rfl) ?_
                              refine vc_y rfl rfl (y_as rfl) ?_
                              refine vc_end ?_
                              refine vq_then ?_
                              refine vc_keep [(3, _), (4, _)] ⟨rfl, rfl, trivial⟩ ?_
                              refine vc_ifs rfl ?_ ?_
                              · intro hc4
                                try simp only [dn] at hc4
                                refine vc_code_skip ?_
                                refine vq_then ?_
                                refine vc_keep [(4, _)] ⟨rfl, trivial⟩ ?_
                                refine vc_ift rfl ?_
                                refine vc_seq ?_
                                refine vc_region ?_
                                refine vc_y rfl rfl (y_as rfl) ?_
                                refine vc_end ?_
                                refine vq_then ?_
                                refine vc_keep [(2, _)] ⟨rfl, trivial⟩ ?_
                                refine vc_ret ?_
                                refine vq_block_ret ?_
                                refine vq_then_ret ?_
                                refine vq_ret1 st (.inl rfl) Tryd.results106 (.tmp rfl) ?_
                                refine ⟨_, rfl, ?_⟩
                                refine ⟨?_, rfl⟩
                                rw [Value.bool.injEq, isSign_ref]
                                first
                                | (symm; simp only [decide_eq_true_eq]; simp only [*, true_or, or_true]; done)
                                | (symm; simp only [decide_eq_false_iff_not]; simp only [*, or_self, not_false_eq_true])
                              · intro hc4
                                try simp only [dn] at hc4
                                refine vc_seq ?_
                                refine vc_region ?_
                                refine vc_y rfl rfl (y_eqs rfl rfl) ?_
                                refine vc_y rfl rfl (y_as rfl) ?_
                                refine vc_end ?_
                                refine vq_then ?_
                                refine vc_keep [(3, _), (4, _)] ⟨rfl, rfl, trivial⟩ ?_
                                refine vc_ifs rfl ?_ ?_
                                · intro hc4
                                  try simp only [dn] at hc4
                                  refine vc_code_skip ?_
                                  refine vq_then ?_
                                  refine vc_keep [(4, _)] ⟨rfl, trivial⟩ ?_
                                  refine vc_ift rfl ?_
                                  refine vc_seq ?_
                                  refine vc_region ?_
                                  refine vc_y rfl rfl (y_as rfl) ?_
                                  refine vc_end ?_
                                  refine vq_then ?_
                                  refine vc_keep [(2, _)] ⟨rfl, trivial⟩ ?_
                                  refine vc_ret ?_
                                  refine vq_block_ret ?_
                                  refine vq_then_ret ?_
                                  refine vq_ret1 st (.inl rfl) Tryd.results106 (.tmp rfl) ?_
                                  refine ⟨_, rfl, ?_⟩
                                  refine ⟨?_, rfl⟩
                                  rw [Value.bool.injEq, isSign_ref]
                                  first
                                  | (symm; simp only [decide_eq_true_eq]; simp only [*, true_or, or_true]; done)
                                  | (symm; simp only [decide_eq_false_iff_not]; simp only [*, or_self, not_false_eq_true])
                                · intro hc4
                                  try simp only [dn] at hc4
                                  refine vc_seq ?_
                                  refine vc_region ?_
                                  refine vc_y rfl rfl (y_eqs rfl rfl) ?_
                                  refine vc_y rfl rfl (y_as rfl) ?_
                                  refine vc_end ?_
                                  refine vq_then ?_
                                  refine vc_keep [(3, _), (4, _)] ⟨rfl, rfl, trivial⟩ ?_
                                  refine vc_ifs rfl ?_ ?_
                                  · intro hc4
                                    try simp only [dn] at hc4
                                    refine vc_code_skip ?_
                                    refine vq_then ?_
                                    refine vc_keep [(4, _)] ⟨rfl, trivial⟩ ?_
                                    refine vc_ift rfl ?_
                                    refine vc_seq ?_
                                    refine vc_region ?_
                                    refine vc_y rfl rfl (y_as rfl) ?_
                                    refine vc_end ?_
                                    refine vq_then ?_
                                    refine vc_keep [(2, _)] ⟨rfl, trivial⟩ ?_
                                    refine vc_ret ?_
                                    refine vq_block_ret ?_
                                    refine vq_then_ret ?_
                                    refine vq_ret1 st (.inl rfl) Tryd.results106 (.tmp rfl) ?_
                                    refine ⟨_, rfl, ?_⟩
                                    refine ⟨?_, rfl⟩
                                    rw [Value.bool.injEq, isSign_ref]
                                    first
                                    | (symm; simp only [decide_eq_true_eq]; simp only [*, true_or, or_true]; done)
                                    | (symm; simp only [decide_eq_false_iff_not]; simp only [*, or_self, not_false_eq_true])
                                  · intro hc4
                                    try simp only [dn] at hc4
                                    refine vc_seq ?_
                                    refine vc_region ?_
                                    refine vc_y rfl rfl (y_eqs rfl rfl) ?_
                                    refine vc_y rfl rfl (y_as rfl) ?_
                                    refine vc_end ?_
                                    refine vq_then ?_
                                    refine vc_keep [(3, _), (4, _)] ⟨rfl, rfl, trivial⟩ ?_
                                    refine vc_ifs rfl ?_ ?_
                                    · intro hc4
                                      try simp only [dn] at hc4
                                      refine vc_code_skip ?_
                                      refine vq_then ?_
                                      refine vc_keep [(4, _)] ⟨rfl, trivial⟩ ?_
                                      refine vc_ift rfl ?_
                                      refine vc_seq ?_
                                      refine vc_region ?_
                                      refine vc_y rfl rfl (y_as rfl) ?_
                                      refine vc_end ?_
                                      refine vq_then ?_
                                      refine vc_keep [(2, _)] ⟨rfl, trivial⟩ ?_
                                      refine vc_ret ?_
                                      refine vq_block_ret ?_
                                      refine vq_then_ret ?_
                                      refine vq_ret1 st (.inl rfl) Tryd.results106 (.tmp rfl) ?_
                                      refine ⟨_, rfl, ?_⟩
                                      refine ⟨?_, rfl⟩
                                      rw [Value.bool.injEq, isSign_ref]
                                      first
                                      | (symm; simp only [decide_eq_true_eq]; simp only [*, true_or, or_true]; done)
                                      | (symm; simp only [decide_eq_false_iff_not]; simp only [*, or_self, not_false_eq_true])
                                    · intro hc4
                                      try simp only [dn] at hc4
                                      refine vc_seq ?_
                                      refine vc_region ?_
                                      refine vc_y rfl rfl (y_eqs rfl rfl) ?_
                                      refine vc_y rfl rfl (y_as rfl) ?_
                                      refine vc_end ?_
                                      refine vq_then ?_
                                      refine vc_keep [(3, _), (4, _)] ⟨rfl, rfl, trivial⟩ ?_
                                      refine vc_ifs rfl ?_ ?_
                                      · intro hc4
                                        try simp only [dn] at hc4
                                        refine vc_code_skip ?_
                                        refine vq_then ?_
                                        refine vc_keep [(4, _)] ⟨rfl, trivial⟩ ?_
                                        refine vc_ift rfl ?_
                                        refine vc_seq ?_
                                        refine vc_region ?_
                                        refine vc_y rfl rfl (y_as rfl) ?_
                                        refine vc_end ?_
                                        refine vq_then ?_
                                        refine vc_keep [(2, _)] ⟨rfl, trivial⟩ ?_
                                        refine vc_ret ?_
                                        refine vq_block_ret ?_
                                        refine vq_then_ret ?_
                                        refine vq_ret1 st (.inl rfl) Tryd.results106 (.tmp rfl) ?_
                                        refine ⟨_, rfl, ?_⟩
                                        refine ⟨?_, rfl⟩
                                        rw [Value.bool.injEq, isSign_ref]
                                        first
                                        | (symm; simp only [decide_eq_true_eq]; simp only [*, true_or, or_true]; done)
                                        | (symm; simp only [decide_eq_false_iff_not]; simp only [*, or_self, not_false_eq_true])
                                      · intro hc4
                                        try simp only [dn] at hc4
                                        refine vc_seq ?_
                                        refine vc_region ?_
                                        refine vc_y rfl rfl (y_eqs rfl rfl) ?_
                                        refine vc_y rfl rfl (y_as rfl) ?_
                                        refine vc_end ?_
                                        refine vq_then ?_
                                        refine vc_keep [(3, _), (4, _)] ⟨rfl, rfl, trivial⟩ ?_
                                        refine vc_ifs rfl ?_ ?_
                                        · intro hc4
                                          try simp only [dn] at hc4
                                          refine vc_code_skip ?_
                                          refine vq_then ?_
                                          refine vc_keep [(4, _)] ⟨rfl, trivial⟩ ?_
                                          refine vc_ift rfl ?_
                                          refine vc_seq ?_
                                          refine vc_region ?_
                                          refine vc_y rfl rfl (y_as rfl) ?_
                                          refine vc_end ?_
                                          refine vq_then ?_
                                          refine vc_keep [(2, _)] ⟨rfl, trivial⟩ ?_
                                          refine vc_ret ?_
                                          refine vq_block_ret ?_
                                          refine vq_then_ret ?_
                                          refine vq_ret1 st (.inl rfl) Tryd.results106 (.tmp rfl) ?_
                                          refine ⟨_, rfl, ?_⟩
                                          refine ⟨?_, rfl⟩
                                          rw [Value.bool.injEq, isSign_ref]
                                          first
                                          | (symm; simp only [decide_eq_true_eq]; simp only [*, true_or, or_true]; done)
                                          | (symm; simp only [decide_eq_false_iff_not]; simp only [*, or_self, not_false_eq_true])
                                        · intro hc4
                                          try simp only [dn] at hc4
                                          refine vc_seq ?_
                                          refine vc_region ?_
                                          refine vc_y rfl rfl (y_eqs rfl rfl) ?_
                                          refine vc_y rfl rfl (y_as rfl) ?_
                                          refine vc_end ?_
                                          refine vq_then ?_
                                          refine vc_keep [(3, _), (4, _)] ⟨rfl, rfl, trivial⟩ ?_
                                          refine vc_ifs rfl ?_ ?_
                                          · intro hc4
                                            try simp only [dn] at hc4
                                            refine vc_code_skip ?_
                                            refine vq_then ?_
                                            refine vc_keep [(4, _)] ⟨rfl, trivial⟩ ?_
                                            refine vc_ift rfl ?_
                                            refine vc_seq ?_
                                            refine vc_region ?_
                                            refine vc_y rfl rfl (y_as rfl) ?_
                                            refine vc_end ?_
                                            refine vq_then ?_
                                            refine vc_keep [(2, _)] ⟨rfl, trivial⟩ ?_
                                            refine vc_ret ?_
                                            refine vq_block_ret ?_
                                            refine vq_then_ret ?_
                                            refine vq_ret1 st (.inl rfl) Tryd.results106 (.tmp rfl) ?_
                                            refine ⟨_, rfl, ?_⟩
                                            refine ⟨?_, rfl⟩
                                            rw [Value.bool.injEq, isSign_ref]
                                            first
                                            | (symm; simp only [decide_eq_true_eq]; simp only [*, true_or, or_true]; done)
                                            | (symm; simp only [decide_eq_false_iff_not]; simp only [*, or_self, not_false_eq_true])
                                          · intro hc4
                                            try simp only [dn] at hc4
                                            refine vc_seq ?_
                                            refine vc_region ?_
                                            refine vc_y rfl rfl (y_eqs rfl rfl) ?_
                                            refine vc_y rfl rfl (y_as rfl) ?_
                                            refine vc_end ?_
                                            refine vq_then ?_
                                            refine vc_keep [(3, _), (4, _)] ⟨rfl, rfl, trivial⟩ ?_
                                            refine vc_ifs rfl ?_ ?_
                                            · intro hc4
                                              try simp only [dn] at hc4
                                              refine vc_code_skip ?_
                                              refine vq_then ?_
                                              refine vc_keep [(4, _)] ⟨rfl, trivial⟩ ?_
                                              refine vc_ift rfl ?_
                                              refine vc_seq ?_
                                              refine vc_region ?_
                                              refine vc_y rfl rfl (y_as rfl) ?_
                                              refine vc_end ?_
                                              refine vq_then ?_
                                              refine vc_keep [(2, _)] ⟨rfl, trivial⟩ ?_
                                              refine vc_ret ?_
                                              refine vq_block_ret ?_
                                              refine vq_then_ret ?_
                                              refine vq_ret1 st (.inl rfl) Tryd.results106 (.tmp rfl) ?_
                                              refine ⟨_, rfl, ?_⟩
                                              refine ⟨?_, rfl⟩
                                              rw [Value.bool.injEq, isSign_ref]
                                              first
                                              | (symm; simp only [decide_eq_true_eq]; simp only [*, true_or, or_true]; done)
                                              | (symm; simp only [decide_eq_false_iff_not]; simp only [*, or_self, not_false_eq_true])
                                            · intro hc4
                                              try simp only [dn] at hc4
                                              refine vc_seq ?_
                                              refine vc_region ?_
                                              refine vc_y rfl rfl (y_eqs rfl rfl) ?_
                                              refine vc_y rfl rfl (y_as rfl) ?_
                                              refine vc_end ?_
                                              refine vq_then ?_
                                              refine vc_keep [(3, _), (4, _)] ⟨rfl, rfl, trivial⟩ ?_
                                              refine vc_ifs rfl ?_ ?_
                                              · intro hc4
                                                try simp only [dn] at hc4
                                                refine vc_code_skip ?_
                                                refine vq_then ?_
                                                refine vc_keep [(4, _)] ⟨rfl, trivial⟩ ?_
                                                refine vc_ift rfl ?_
                                                refine vc_seq ?_
                                                refine vc_region ?_
                                                refine vc_y rfl rfl (y_as rfl) ?_
                                                refine vc_end ?_
                                                refine vq_then ?_
                                                refine vc_keep [(2, _)] ⟨rfl, trivial⟩ ?_
                                                refine vc_ret ?_
                                                refine vq_block_ret ?_
                                                refine vq_then_ret ?_
                                                refine vq_ret1 st (.inl rfl) Tryd.results106 (.tmp rfl) ?_
                                                refine ⟨_, rfl, ?_⟩
                                                refine ⟨?_, rfl⟩
                                                rw [Value.bool.injEq, isSign_ref]
                                                first
                                                | (symm; simp only [decide_eq_true_eq]; simp only [*, true_or, or_true]; done)
                                                | (symm; simp only [decide_eq_false_iff_not]; simp only [*, or_self, not_false_eq_true])
                                              · intro hc4
                                                try simp only [dn] at hc4
                                                refine vc_region ?_
                                                refine vc_y rfl rfl (y_eqs rfl rfl) ?_
                                                refine vc_y rfl rfl (y_as rfl) ?_
                                                refine vc_end ?_
                                                refine vq_then ?_
                                                refine vc_keep [(4, _)] ⟨rfl, trivial⟩ ?_
                                                refine vc_ifs rfl ?_ ?_
                                                · intro hc4
                                                  try simp only [dn] at hc4
                                                  refine vc_seq ?_
                                                  refine vc_region ?_
                                                  refine vc_y rfl rfl (y_as rfl) ?_
                                                  refine vc_end ?_
                                                  refine vq_then ?_
                                                  refine vc_keep [(2, _)] ⟨rfl, trivial⟩ ?_
                                                  refine vc_ret ?_
                                                  refine vq_block_ret ?_
                                                  refine vq_then_ret ?_
                                                  refine vq_ret1 st (.inl rfl) Tryd.results106 (.tmp rfl) ?_
                                                  refine ⟨_, rfl, ?_⟩
                                                  refine ⟨?_, rfl⟩
                                                  rw [Value.bool.injEq, isSign_ref]
                                                  first
                                                  | (symm; simp only [decide_eq_true_eq]; simp only [*, true_or, or_true]; done)
                                                  | (symm; simp only [decide_eq_false_iff_not]; simp only [*, or_self, not_false_eq_true])
                                                · intro hc4
                                                  try simp only [dn] at hc4
                                                  refine vc_code_skip ?_
                                                  refine vq_block ?_
                                                  refine vq_then ?_
                                                  refine vc_keep [] trivial ?_
                                                  refine vc_seq ?_
                                                  refine vc_region ?_
                                                  refine vc_y rfl rfl (y_as rfl) ?_
                                                  refine vc_end ?_
                                                  refine vq_then ?_
                                                  refine vc_keep [(2, _)] ⟨rfl, trivial⟩ ?_
                                                  refine vc_ret ?_
                                                  refine vq_ret1 st (.inl rfl) Tryd.results106 (.tmp rfl) ?_
                                                  refine ⟨_, rfl, ?_⟩
                                                  refine ⟨?_, rfl⟩
                                                  rw [Value.bool.injEq, isSign_ref]
                                                  first
                                                  | (symm; simp only [decide_eq_true_eq]; simp only [*, true_or, or_true]; done)
                                                  | (symm; simp only [decide_eq_false_iff_not]; simp only [*, or_self, not_false_eq_true])

end Go.Proofs.YtggnfanphcaamaaDoor

