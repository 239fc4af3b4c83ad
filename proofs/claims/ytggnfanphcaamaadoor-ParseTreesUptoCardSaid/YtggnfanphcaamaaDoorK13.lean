/- A part of the proof: contracts of functions and plain laws; each theorem says its own conditions. -/
import Derived.Test.YtggnfanphcaamaaDoorK12
import Derived.Test.YtggnfanphcaamaaDoorK4
import Derived.Test.YtggnfanphcaamaaDoorK1
import Derived.Test.YtggnfanphcaamaaDoorK2
namespace Go.Proofs.YtggnfanphcaamaaDoor
open Go.RowKit Sx LexS ParS
set_option linter.unusedVariables false
set_option linter.unusedSimpArgs false

theorem parse_idle (args : List Value) (h3 : args.length = 3) (w : World) : DefIdle Tryd.prog 37 args.toArray w (fun w' => w' = w) := by
 refine callsD_of_wpS Tryd.func37 rfl fun c₀ cs hu => ?_
 obtain ⟨x, y, z, rfl⟩ : ∃ x y z, args = [x, y, z] := by
  match args, h3 with
  | [x, y, z], _ => exact ⟨x, y, z, rfl⟩
 apply wpS_seq
 apply wpS_region
 simp [wpOpsS, go_sem, recoverD, hu, Tryd.ntmps37, Exit.thenS]
 apply wpS_seq
 apply wpS_region
 simp [wpOpsS, go_sem, Exit.thenS]
 refine wpS_cond (t := false) (by simp [Act.eval, Array.replicate]) ?_
 simp only [Bool.false_eq_true, if_false]
 refine wpS_of_wp (wp_skip ?_)
 cases c₀
 simp_all [bodyPostS, results, Tryd.results37]

theorem _root_.Sx.St.push2 {w w' w0 : World} {M : List Nat} {hs : List Res} (st : St w0 M hs w) (c : Chg [] w w') {r q : Res} (hr : r.holds w0.heap.size w') (hq : q.holds w0.heap.size w') (hat : ∀ k ∈ r.at?, w.heap.size ≤ k) (hat' : ∀ k ∈ q.at?, w.heap.size ≤ k) (hd : ∀ k ∈ r.at?, k ∉ q.at?) : St w0 M (r :: q :: hs) w' := by
 have st1 := st.pushR c hq hat'
 refine ⟨st1.chg, List.pairwise_cons.2 ⟨fun x hx k hk hk' => ?_, st1.nodup⟩, fun x hx => ?_⟩
 ·
  rcases List.mem_cons.1 hx with rfl | h
  ·
   exact hd k hk hk'
  ·
   exact absurd (st.lt h hk') (by have := hat k hk; omega)
 ·
  rcases List.mem_cons.1 hx with rfl | h
  ·
   exact hr
  ·
   exact st1.here x h
theorem _root_.Sx.St.pnew {s : List UInt8} {c : PCtx} {w w' w0 : World} {M : List Nat} {hs : List Res} (st : St w0 M hs w) (ch : Chg [] w w') (h : PNew s w.heap.size c w') :
    St w0 M (.blk c.pb (.cells (pcell c c.ts).toArray c.T (0, 0)) :: .own (.slice c.oa c.ts.length c.cap) 53 4 c.ts.length (toksL c.ts) :: hs) w' :=
 st.push2 ch h.at_ (ownsRow_base h.own st.chg.size) (by simpa [Res.at?] using h.le) (fun k hk => (World.ownsRow.lt h.own k (by simpa [Res.at?] using hk)).1)
  (fun k hk => by
    simp only [Res.at?, List.mem_singleton] at hk
    subst hk
    intro hk'
    simp only [Res.at?, obk_own] at hk'
    exact absurd (h.lt _ hk') (Nat.lt_irrefl _))

/-- what 'Parse' leaves behind -/
def ParsePost (s : List UInt8) (w : World) (v : Value) (w' : World) : Prop := Chg [] w w' ∧ ∃ vp, HP w (parseRes s).1 vp w' ∧ v = .tuple #[vp, .int .i64 ((parseRes s).2.1 : Int), .agg #[.int .i64 ((parseRes s).2.2.1 : Int), .int .i64 ((parseRes s).2.2.2 : Int)]]
theorem hp_none (w0 : World) (w' : World) : HP w0 pg0 (.agg pg00.toArray) w' :=
 ⟨none, none, none, 0, 0, 0, [], rfl, ⟨none, 0, none, 0, none, 0, [], [], [], rfl, ⟨World.ownsRow_nil _ _ _ _, rfl⟩, ⟨World.ownsRow_nil _ _ _ _, rfl⟩, ⟨[], [], World.ownsRow_nil _ _ _ _, rfl, rfl, rfl⟩, rfl⟩, Nw.nil⟩
theorem _root_.Sx.holds_pg {tE tS tD tT base : Nat} {w : World} {q : Pg} {l : List Value} {S : List Nat} (h : PgS tE tS tD tT w q l S) : (Res.tree S fun w => PgS tE tS tD tT w q l S).holds base w := holds_of h h.lt (fun a b h hk => h.kept hk)

/-- a refusal is caught -/
theorem parse_pan {s : List UInt8} {w0 w : World} {b2 b3 b4 : Nat} {f : Flt} {kn : Kn} (h2 : w.heap[b2]? = some (.cells pg00.toArray 44 (0, 0))) (h3 : w.heap[b3]? = some (.cells [.int .i64 0].toArray 27 (0, 0))) (h4 : w.heap[b4]? = some (.cells [.int .i64 0, .int .i64 0].toArray 29 (0, 0)))
    (n1 : b2 ≠ b3) (n2 : b2 ≠ b4) (n3 : b3 ≠ b4) (l2 : w0.heap.size ≤ b2) (l3 : w0.heap.size ≤ b3) (l4 : w0.heap.size ≤ b4) (ch : Chg [] w0 w) (hpr : parseRes s = (pg0, 30, f.1, f.2))
  (k2 : find kn 2 = some (.pointer (some ⟨b2, 0, none⟩))) (k3 : find kn 3 = some (.pointer (some ⟨b3, 0, none⟩))) (k4 : find kn 4 = some (.pointer (some ⟨b4, 0, none⟩))) :
  PanK (21, [⟨.fn (.func 37) (List.toArray [.pointer (some ⟨b2, 0, none⟩), .pointer (some ⟨b3, 0, none⟩), .pointer (some ⟨b4, 0, none⟩)]), #[]⟩]) kn (bodyPostD Tryd.prog Tryd.f16 fun e w' => ∃ v, e = .returned v ∧ ParsePost s w0 v w') (.iface 65 (.agg #[.int .i64 (f.1 : Int), .int .i64 (f.2 : Int)])) w := by
 refine pan_leave Tryd.call37 (parse_catch b2 b3 b4 f.1 f.2 _ w h2 h3 h4 n1 n2 n3) (fun w2 hc => ?_)
 obtain ⟨g2, g3, g4, c2⟩ := hc
 have st2 := St.of3 [] g2 g3 g4 n1 n2 n3
 refine ⟨_, results3 st2 Tryd.results16 (.cell 0 k2 rfl Tryd.isAgg44 Tryd.sizeOf44) (.cell1 1 k3 rfl Tryd.isAgg27 rfl) (.cell 2 k4 rfl Tryd.isAgg29 Tryd.sizeOf29), _, rfl, ch.trans' c2 (by simp [l2, l3, l4]), ?_⟩
 rw [hpr]
 exact ⟨_, hp_none _ _, rfl⟩

set_option maxHeartbeats 1000000 in
theorem parse_any (s : List UInt8) (w : World) (hsg : SigAt 0 w) : Ret Tryd.prog 16 [str s] w (ParsePost s w) := by
 refine retd_of [_] Tryd.func16 rfl Tryd.ntmps16 rfl ?_
 have st := St.init w []
 obtain ⟨w0, rfl⟩ : ∃ w0, w0 = w := ⟨_, rfl⟩
 have h0 : 0 < w0.heap.size := World.block_lt_of_cell? w0 _ (hsg 0 (by omega)).1
 refine vc_seq (vc_region ?_)
 refine vc_e (e_al (l := [_, _, _]) st rfl rfl Tryd.zeroValue44 rfl ?_)
 intro b2 w hb2 st
 refine vc_e (e_al (l := [_]) st rfl rfl Tryd.zeroValue27 rfl ?_)
 intro b3 w hb3 st
 refine vc_e (e_al (l := [_, _]) st rfl rfl Tryd.zeroValue29 rfl ?_)
 intro b4 w hb4 st
 refine vc_end (vq_then (vc_keep [(0, _), (2, _), (3, _), (4, _)] ⟨rfl, rfl, rfl, rfl, trivial⟩ (vc_seq (vc_region ?_))))
 refine vc_y rfl rfl (y_mv rfl) ?_
 have n43 := st.bne 0 1 (by decide) rfl rfl
 have n42 := st.bne 0 2 (by decide) rfl rfl
 have n32 := st.bne 1 2 (by decide) rfl rfl
 have n34 := Ne.symm n43
 have n24 := Ne.symm n42
 have n23 := Ne.symm n32
 have hw1 := st.chg.size
 refine vc_e (e_call [_] rfl rfl Tryd.call27 rfl (begun_any s _ (hsg.kept st.chg (by simp))) ?_)
 rintro _ w ⟨cw, hb⟩
 rcases hb with ⟨hl, rfl⟩ | ⟨hl, ru, pl, hfr, rfl⟩ | ⟨hl, hfr, c, hn, rfl⟩
 ·
  replace st := st.call0 cw
  have hpr : parseRes s = (pg0, 4, 0, 0) := by simp [parseRes, hl]
  refine vc_y rfl rfl (y_mv rfl) ?_
  iterate 3 refine vc_y rfl rfl (y_ext rfl rfl) ?_
  refine vc_y rfl rfl (y_as rfl) ?_
  refine vc_e (e_st st 1 rfl rfl rfl rfl Tryd.sizeOf27 rfl rfl (by first | (right; assumption) | (left; simp)) ?_)
  intro w st; dsimp only [setNth, wr] at st
  refine vc_e (e_sts (vs := [_, _]) st 0 rfl rfl rfl rfl rfl Tryd.sizeOf29 rfl rfl (by first | (right; assumption) | (left; simp)) ?_)
  intro w st; dsimp only [setNth, wr] at st
  refine vc_end (vq_then (vc_keep [(2, _), (3, _), (4, _), (5, _)] ⟨rfl, rfl, rfl, rfl, trivial⟩ (vc_seq (vc_seq (vc_region ?_)))))
  refine vc_y rfl rfl ((by exact y_ld st 1 rfl Tryd.isAgg27 rfl rfl)) ?_
  refine vc_y rfl rfl (y_nei rfl rfl) ?_
  refine vc_end (vq_then (vc_keep [(2, _), (3, _), (4, _), (5, _), (13, _)] ⟨rfl, rfl, rfl, rfl, rfl, trivial⟩ ?_))
  refine vc_ifs rfl ?_ ?_
  ·
   intro hc13
   try simp only [dn] at hc13
   refine vc_seq ?_
   refine vc_noPan ?_
   refine vc_draw Tryd.mixed [(0, true), (1, true), (2, true), (3, false), (4, false), (5, false)] (fun w => St _ _ _ w) st (by kernel_rfl) (by repeat (first | exact okQ_noPan | exact okQ_body | exact okQ_bodyS | refine okQ_then ?_ | refine okQ_block ?_)) rfl (by kernel_rfl) ?_
   intro w cd; replace st := st.call0 cd; clear cd
   have hS := st
   refine vp_take rfl rfl rfl hS (fun w st => (by exact y_lda (vs := [_, _, _]) st 2 rfl Tryd.isAgg44 Tryd.sizeOf44 rfl rfl)) ?_
   refine vp_take rfl rfl rfl hS (fun w st => (by exact y_ld st 1 rfl Tryd.isAgg27 rfl rfl)) ?_
   refine vp_take rfl rfl rfl hS (fun w st => (by exact y_lda (vs := [_, _]) st 0 rfl Tryd.isAgg29 Tryd.sizeOf29 rfl rfl)) ?_
   refine vp_do rfl (e_sts (vs := [_, _, _]) st 2 rfl rfl rfl rfl rfl Tryd.sizeOf44 rfl rfl (by first | (right; assumption) | (left; simp)) ?_)
   intro w st; dsimp only [setNth, wr] at st
   refine vp_next (by exact st) ?_; intro hS
   refine vp_do rfl (e_st st 1 rfl rfl rfl rfl Tryd.sizeOf27 rfl rfl (by first | (right; assumption) | (left; simp)) ?_)
   intro w st; dsimp only [setNth, wr] at st
   refine vp_next (by exact st) ?_; intro hS
   refine vp_do rfl (e_sts (vs := [_, _]) st 0 rfl rfl rfl rfl rfl Tryd.sizeOf29 rfl rfl (by first | (right; assumption) | (left; simp)) ?_)
   intro w st; dsimp only [setNth, wr] at st
   refine vp_next (by exact st) ?_; intro hS
   refine vp_end ?_
   refine vq_noPan ?_
   refine vq_then (vc_keep [(2, _), (3, _), (4, _)] ⟨rfl, rfl, rfl, trivial⟩ (vc_ret (vq_then_ret ?_)))
   refine vqd_post (.inl rfl) (results3 st Tryd.results16 (.cell 2 rfl rfl Tryd.isAgg44 Tryd.sizeOf44) (.cell1 1 rfl rfl Tryd.isAgg27 rfl) (.cell 0 rfl rfl Tryd.isAgg29 Tryd.sizeOf29)) ?_
   refine ⟨_, rfl, st.chg, ?_⟩
   rw [hpr]
   exact ⟨_, hp_none _ _, rfl⟩
  ·
   intro hc13
   exact absurd hc13 (by decide)
 ·
  replace st := st.call0 cw
  have hpr : parseRes s = (pg0, 30, pl, 1) := by simp [parseRes, Nat.not_lt.2 hl, hfr]
  refine vc_y rfl rfl (y_mv rfl) ?_
  iterate 3 refine vc_y rfl rfl (y_ext rfl rfl) ?_
  refine vc_y rfl rfl (y_as rfl) ?_
  refine vc_e (e_st st 1 rfl rfl rfl rfl Tryd.sizeOf27 rfl rfl (by first | (right; assumption) | (left; simp)) ?_)
  intro w st; dsimp only [setNth, wr] at st
  refine vc_e (e_sts (vs := [_, _]) st 0 rfl rfl rfl rfl rfl Tryd.sizeOf29 rfl rfl (by first | (right; assumption) | (left; simp)) ?_)
  intro w st; dsimp only [setNth, wr] at st
  refine vc_end (vq_then (vc_keep [(2, _), (3, _), (4, _), (5, _)] ⟨rfl, rfl, rfl, rfl, trivial⟩ (vc_seq (vc_seq (vc_region ?_)))))
  refine vc_y rfl rfl ((by exact y_ld st 1 rfl Tryd.isAgg27 rfl rfl)) ?_
  refine vc_y rfl rfl (y_nei rfl rfl) ?_
  refine vc_end (vq_then (vc_keep [(2, _), (3, _), (4, _), (5, _), (13, _)] ⟨rfl, rfl, rfl, rfl, rfl, trivial⟩ ?_))
  refine vc_ifs rfl ?_ ?_
  ·
   intro hc13
   try simp only [dn] at hc13
   refine vc_seq ?_
   refine vc_noPan ?_
   refine vc_draw Tryd.mixed [(0, true), (1, true), (2, true), (3, false), (4, false), (5, false)] (fun w => St _ _ _ w) st (by kernel_rfl) (by repeat (first | exact okQ_noPan | exact okQ_body | exact okQ_bodyS | refine okQ_then ?_ | refine okQ_block ?_)) rfl (by kernel_rfl) ?_
   intro w cd; replace st := st.call0 cd; clear cd
   have hS := st
   refine vp_take rfl rfl rfl hS (fun w st => (by exact y_lda (vs := [_, _, _]) st 2 rfl Tryd.isAgg44 Tryd.sizeOf44 rfl rfl)) ?_
   refine vp_take rfl rfl rfl hS (fun w st => (by exact y_ld st 1 rfl Tryd.isAgg27 rfl rfl)) ?_
   refine vp_take rfl rfl rfl hS (fun w st => (by exact y_lda (vs := [_, _]) st 0 rfl Tryd.isAgg29 Tryd.sizeOf29 rfl rfl)) ?_
   refine vp_do rfl (e_sts (vs := [_, _, _]) st 2 rfl rfl rfl rfl rfl Tryd.sizeOf44 rfl rfl (by first | (right; assumption) | (left; simp)) ?_)
   intro w st; dsimp only [setNth, wr] at st
   refine vp_next (by exact st) ?_; intro hS
   refine vp_do rfl (e_st st 1 rfl rfl rfl rfl Tryd.sizeOf27 rfl rfl (by first | (right; assumption) | (left; simp)) ?_)
   intro w st; dsimp only [setNth, wr] at st
   refine vp_next (by exact st) ?_; intro hS
   refine vp_do rfl (e_sts (vs := [_, _]) st 0 rfl rfl rfl rfl rfl Tryd.sizeOf29 rfl rfl (by first | (right; assumption) | (left; simp)) ?_)
   intro w st; dsimp only [setNth, wr] at st
   refine vp_next (by exact st) ?_; intro hS
   refine vp_end ?_
   refine vq_noPan ?_
   refine vq_then (vc_keep [(2, _), (3, _), (4, _)] ⟨rfl, rfl, rfl, trivial⟩ (vc_ret (vq_then_ret ?_)))
   refine vqd_post (.inl rfl) (results3 st Tryd.results16 (.cell 2 rfl rfl Tryd.isAgg44 Tryd.sizeOf44) (.cell1 1 rfl rfl Tryd.isAgg27 rfl) (.cell 0 rfl rfl Tryd.isAgg29 Tryd.sizeOf29)) ?_
   refine ⟨_, rfl, st.chg, ?_⟩
   rw [hpr]
   exact ⟨_, hp_none _ _, rfl⟩
  ·
   intro hc13
   exact absurd hc13 (by decide)
 ·
  replace st := st.pnew cw hn
  have hpr : parseRes s = match progP c.e (c.ts.length + 1) c.ts with | .error f => (pg0, 30, f.1, f.2) | .ok p => (p, 0, 0, 0) := by
   unfold parseRes; rw [if_neg (by omega), hfr, hn.e, hn.ts]
   try rfl
  refine vc_y rfl rfl (y_mv rfl) ?_
  iterate 3 refine vc_y rfl rfl (y_ext rfl rfl) ?_
  refine vc_y rfl rfl (y_as rfl) ?_
  refine vc_e (e_st st 3 rfl rfl rfl rfl Tryd.sizeOf27 rfl rfl (by first | (right; assumption) | (left; simp)) ?_)
  intro w st; dsimp only [setNth, wr] at st
  refine vc_e (e_sts (vs := [_, _]) st 2 rfl rfl rfl rfl rfl Tryd.sizeOf29 rfl rfl (by first | (right; assumption) | (left; simp)) ?_)
  intro w st; dsimp only [setNth, wr] at st
  refine vc_end (vq_then (vc_keep [(2, _), (3, _), (4, _), (5, _)] ⟨rfl, rfl, rfl, rfl, trivial⟩ (vc_seq (vc_seq (vc_region ?_)))))
  refine vc_y rfl rfl ((by exact y_ld st 3 rfl Tryd.isAgg27 rfl rfl)) ?_
  refine vc_y rfl rfl (y_nei rfl rfl) ?_
  refine vc_end (vq_then (vc_keep [(2, _), (3, _), (4, _), (5, _), (13, _)] ⟨rfl, rfl, rfl, rfl, rfl, trivial⟩ ?_))
  refine vc_ifs rfl ?_ ?_
  ·
   intro hc13
   exact absurd hc13 (by decide)
  ·
   intro hc13
   try simp only [dn] at hc13
   refine vc_code_skip (vq_then (vc_keep [(2, _), (3, _), (4, _), (5, _)] ⟨rfl, rfl, rfl, rfl, trivial⟩ (vc_seq (vc_region ?_))))
   refine vc_y rfl rfl (y_mf [] [_, _, _] rfl rfl) ?_
   refine vc_e (e_deferV rfl rfl rfl ?_)
   refine vc_end (vq_then (vc_keep [(2, _), (3, _), (4, _), (5, _)] ⟨rfl, rfl, rfl, rfl, trivial⟩ (vc_seq (vc_region ?_))))
   refine vc_y rfl rfl (y_mv rfl) ?_
   refine vc_e (e_callk [_] rfl rfl Tryd.call38 rfl (pprog_any c hn.R hn.g c.ts (List.suffix_refl _) _ (hn.ok (st.res (i := 1) rfl) (hsg.kept st.chg (by simp)) (st.res (i := 0) rfl) (Nat.lt_of_lt_of_le h0 hw1)) (st.res (i := 0) rfl) (c.ts.length + 1) (by omega)) (by
       rintro _ w' ⟨f, hf, rfl, ch⟩
       obtain ⟨o', ho'⟩ : ∃ o', w'.heap[c.pb]? = some o' := ⟨_, Array.getElem?_eq_getElem (Nat.lt_of_lt_of_le (Array.getElem?_eq_some_iff.1 (st.res (i := 0) rfl)).1 ch.size)⟩
       have st' := St.prs (b := c.pb) st 0 rfl ch (.inr (Nat.le_trans hw1 hn.le)) ho'
       dsimp only [setNth] at st'
       rw [show refV c f = .iface 65 (.agg #[.int .i64 (f.1 : Int), .int .i64 (f.2 : Int)]) by rw [refV, hn.R]]
       exact parse_pan (st'.res (i := 4) rfl) (st'.res (i := 3) rfl) (st'.res (i := 2) rfl) n23 n24 n34 hb2 hb3 hb4 st'.chg (by rw [hpr, hf]) rfl rfl rfl) ?_)
   rintro _ w ⟨q, hq, cw, os, ol, ot, cs, cl, ct, Sq, rfl, hT, hN⟩
   have hw2 := st.chg.size
   obtain ⟨o', ho'⟩ : ∃ o', w.heap[c.pb]? = some o' := ⟨_, Array.getElem?_eq_getElem (Nat.lt_of_lt_of_le (Array.getElem?_eq_some_iff.1 (st.res (i := 0) rfl)).1 cw.size)⟩
   replace st := St.prsT (b := c.pb) st 0 rfl cw (.inr (Nat.le_trans hw1 hn.le)) ho' (holds_pg hT) hN.2
   dsimp only [setNth] at st
   refine vc_y rfl rfl (y_bld (.agg #[_, _]) [] rfl (fun w => by simp [Instr.build, go_sem] <;> repeat' constructor)) ?_
   refine vc_e (e_sts (vs := [_, _, _]) st 5 rfl rfl rfl rfl rfl Tryd.sizeOf44 rfl rfl (by first | (right; assumption) | (left; simp)) ?_)
   intro w st; dsimp only [setNth, wr] at st
   refine vc_e (e_st st 4 rfl rfl rfl rfl Tryd.sizeOf27 rfl rfl (by first | (right; assumption) | (left; simp)) ?_)
   intro w st; dsimp only [setNth, wr] at st
   refine vc_e (e_sts (vs := [_, _]) st 3 rfl rfl rfl rfl rfl Tryd.sizeOf29 rfl rfl (by first | (right; assumption) | (left; simp)) ?_)
   intro w st; dsimp only [setNth, wr] at st
   refine vc_end (vq_then (vc_keep [(2, _), (3, _), (4, _)] ⟨rfl, rfl, rfl, trivial⟩ (vc_ret ?_)))
   refine vqd_ret (.inl rfl) Tryd.call37 (parse_idle [.pointer (some ⟨b2, 0, none⟩), .pointer (some ⟨b3, 0, none⟩), .pointer (some ⟨b4, 0, none⟩)] rfl _) (fun w2 e2 => ?_)
   subst e2
   refine ⟨_, results3 st Tryd.results16 (.cell 5 rfl rfl Tryd.isAgg44 Tryd.sizeOf44) (.cell1 4 rfl rfl Tryd.isAgg27 rfl) (.cell 3 rfl rfl Tryd.isAgg29 Tryd.sizeOf29), _, rfl, st.chg, ?_⟩
   rw [hpr, hq]
   dsimp only
   exact ⟨_, ⟨os, ol, ot, cs, cl, ct, Sq, rfl, (st.res (i := 0) rfl).1, hN.le hw2⟩, rfl⟩

end Go.Proofs.YtggnfanphcaamaaDoor


/- What is read of a tree that lies in rows. -/
namespace Sx
open Go Go.RowKit
set_option linter.unusedVariables false
variable {w : World} {S : Nat → Prop}
theorem ExRow.gets {oa : Option Addr} {es : List Ex} (h : ExRow w S oa es) (hne : 0 < es.length) : ∃ b off, oa = some ⟨b, off, none⟩ ∧ ∀ j x, es[j]? = some x → ∃ ok ck, (∀ i v, (exC x ok ck)[i]? = some v → w.cell? ⟨b, off + j * 6 + i, none⟩ = some v) ∧ ExRow w S ok x.kids := by
  obtain ⟨vs, hr, hk⟩ := h
  rcases hr with h0 | ⟨b, off, e, -, -, hc⟩
  · omega
  · refine ⟨b, off, e, fun j x hx => ?_⟩
    have hj : j < es.length := (List.getElem?_eq_some_iff.1 hx).1
    have hv := hk j x hx
    obtain ⟨-, hcell⟩ := hc j hj
    generalize vs j = l at hv hcell
    cases hv with
    | mk vs' hr' hk' => exact ⟨_, _, hcell, _, hr', hk'⟩
theorem SmRow.gets {oa : Option Addr} {es : List Sm} (h : SmRow w S oa es) (hne : 0 < es.length) : ∃ b off, oa = some ⟨b, off, none⟩ ∧ ∀ j x, es[j]? = some x → ∃ oe ob ol ce cb cl, (∀ i v, (smC x oe ob ol ce cb cl)[i]? = some v → w.cell? ⟨b, off + j * 7 + i, none⟩ = some v) ∧ ExRow w S oe x.e ∧ SmRow w S ob x.body ∧ SmRow w S ol x.els := by
  obtain ⟨vs, hr, hk⟩ := h
  rcases hr with h0 | ⟨b, off, e, -, -, hc⟩
  · omega
  · refine ⟨b, off, e, fun j x hx => ?_⟩
    have hj : j < es.length := (List.getElem?_eq_some_iff.1 hx).1
    have hv := hk j x hx
    obtain ⟨-, hcell⟩ := hc j hj
    generalize vs j = l at hv hcell
    cases hv with
    | mk vb vl he hb hbk hl hlk => exact ⟨_, _, _, _, _, _, hcell, he, ⟨_, hb, hbk⟩, _, hl, hlk⟩
theorem ThRow.gets {oa : Option Addr} {es : List Th} (h : ThRow w S oa es) (hne : 0 < es.length) : ∃ b off, oa = some ⟨b, off, none⟩ ∧ ∀ j x, es[j]? = some x → ∃ ol ob cl cb, (∀ i v, (thC x ol ob cl cb)[i]? = some v → w.cell? ⟨b, off + j * 4 + i, none⟩ = some v) ∧ DcRow w S ol x.locals ∧ SmRow w S ob x.body := by
  obtain ⟨vs, hr, hk⟩ := h
  rcases hr with h0 | ⟨b, off, e, -, -, hc⟩
  · omega
  · refine ⟨b, off, e, fun j x hx => ?_⟩
    have hj : j < es.length := (List.getElem?_eq_some_iff.1 hx).1
    obtain ⟨ol, cl, ob, cb, hl, hd, hs⟩ := hk j x hx
    obtain ⟨-, hcell⟩ := hc j hj
    rw [hl] at hcell
    exact ⟨ol, ob, cl, cb, hcell, hd, hs⟩
theorem DcRow.gets {oa : Option Addr} {ds : List Dc} (h : DcRow w S oa ds) (hne : 0 < ds.length) : ∃ b off, oa = some ⟨b, off, none⟩ ∧ ∀ j x, ds[j]? = some x → ∀ i v, (dcL x)[i]? = some v → w.cell? ⟨b, off + j * 3 + i, none⟩ = some v := by
  rcases h with h0 | ⟨b, off, e, -, -, hc⟩
  · omega
  · refine ⟨b, off, e, fun j x hx => ?_⟩
    have hj : j < ds.length := (List.getElem?_eq_some_iff.1 hx).1
    obtain ⟨-, hcell⟩ := hc j hj
    simpa only [List.getD, hx, Option.getD_some] using hcell
theorem pgS_rows {tE tS tD tT : Nat} {p : Pg} {os ol ot : Option Addr} {cs cl ct : Nat} {B : List Nat} (h : PgS tE tS tD tT w p (pgC p os ol ot cs cl ct) B) : DcRow w (fun _ => True) os p.shared ∧ DcRow w (fun _ => True) ol p.locks ∧ ThRow w (fun _ => True) ot p.threads := by
  obtain ⟨os', cs', ol', cl', ot', ct', e, h1, h2, h3⟩ := h.toV (T := fun _ => True) (fun _ _ => trivial)
  simp only [pgC, List.cons.injEq, Value.slice.injEq, and_true, true_and] at e
  obtain ⟨⟨rfl, -⟩, ⟨rfl, -⟩, rfl, -⟩ := e
  exact ⟨h1, h2, h3⟩
end Sx


/- The two texts that say whether the parser lives. -/
namespace ParS
open LexS Sx Go.RowKit Go
def liveS : List UInt8 := [115, 104, 97, 114, 101, 100, 32, 120, 32, 61, 32, 45, 51, 59, 32, 116, 104, 114, 101, 97, 100, 32, 97, 32, 123, 32, 120, 32, 61, 32, 49, 32, 43, 32, 50, 32, 42, 32, 120, 59, 32, 125]
def deadS : List UInt8 := [116, 104, 114, 101, 97, 100, 32, 97, 32, 123, 32, 120, 32, 61, 32, 49, 32, 125]
set_option maxRecDepth 100000
abbrev liveQ : Pg := ⟨[⟨[120], -3, 7⟩], [], [⟨[97], [], [.mk 1 [120] [] [.mk 4 1 0 [] [.mk 1 0 1 [] [] 30, .mk 4 3 0 [] [.mk 1 0 2 [] [] 34, .mk 2 0 0 [120] [] 38] 36] 32] [] [] 26], 22⟩]⟩
theorem live_res : parseRes liveS = (liveQ, 0, 0, 0) := by kernel_rfl
theorem dead_res : parseRes deadS = (pg0, 30, 17, 2) := by kernel_rfl

end ParS


namespace Go.Proofs.YtggnfanphcaamaaDoor
open Go.RowKit Sx LexS ParS
set_option linter.unusedVariables false
set_option linter.unusedSimpArgs false
theorem fieldsF : (Tryd.prog.fieldsOf 29).toList.map (fun f => (f.name, f.type, f.offset)) = [("At", 3, 0), ("Rule", 3, 1)] := by kernel_rfl
theorem eqFieldsF (p q r s : Int) (w : World) : (Op.eqFields 9999 [.int .i64 p, .int .i64 q].toArray [.int .i64 r, .int .i64 s].toArray (Tryd.prog.fieldsOf 29).toList).run Tryd.prog w = .ok (decide (p = r) && decide (q = s)) w := by
  have h := fieldsF
  match hf : (Tryd.prog.fieldsOf 29).toList with
  | [a, b] =>
    rw [hf] at h
    simp only [List.map_cons, List.map_nil, List.cons.injEq, Prod.mk.injEq, and_true] at h
    obtain ⟨⟨a1, a2, a3⟩, b1, b2, b3⟩ := h
    have e1 : ∀ (x y : Int) w, (part 3 [.int .i64 x, .int .i64 y].toArray 0).run Tryd.prog w = .ok (.int .i64 x) w := fun x y w => run_part1 Tryd.isAgg3 rfl
    have e2 : ∀ (x y : Int) w, (part 3 [.int .i64 x, .int .i64 y].toArray 1).run Tryd.prog w = .ok (.int .i64 y) w := fun x y w => run_part1 Tryd.isAgg3 rfl
    have r1 := run_equalIn_int (P := Tryd.prog) w 9998 3 .i64 .i64 p r Tryd.underlying3
    have r2 := run_equalIn_int (P := Tryd.prog) w 9998 3 .i64 .i64 q s Tryd.underlying3
    simp only [Op.eqFields, a1, a2, a3, b1, b2, b3, Sem.run_bind, Sem.run_ite, e1, e2, Result.andThen_ok]
    simp only [ne_eq, String.reduceEq, not_false_eq_true, if_true, Sem.run_bind, Sem.run_ite, e1, e2, r1, r2, Result.andThen_ok, Sem.run_pure]
    by_cases h1 : p = r
    · by_cases h2 : q = s <;> simp [h1, h2]
    · simp [h1]
  | [] => rw [hf] at h; simp at h
  | [_] => rw [hf] at h; simp at h
  | _ :: _ :: _ :: _ => rw [hf] at h; simp at h
section
variable {n : Fr} {kn : Kn} {w : World} {d ty : Nat} {pos : String} {aft : Array Edge} {g : Option (Nat × Bool)}
theorem y_neF {U : Nat} {x y : Operand} {p q r s : Int} (hx : evO kn x = some (.agg [.int .i64 p, .int .i64 q].toArray)) (hy : evO kn y = some (.agg [.int .i64 r, .int .i64 s].toArray)) : Y Tryd.prog n kn w ⟨some d, .binOp .neq 29 x y U, ty, pos, aft, g⟩ (.bool (!(decide (p = r) && decide (q = s)))) :=
  y_bo hx hy (by
    have h1 := run_eqGuard_agg (P := Tryd.prog) w .neq 29 x y [.int .i64 p, .int .i64 q].toArray [.int .i64 r, .int .i64 s].toArray (by kernel_rfl)
    have h2 := run_neq_struct (P := Tryd.prog) w 29 [.int .i64 p, .int .i64 q].toArray [.int .i64 r, .int .i64 s].toArray
    rw [run_equalIn_agg w 9999 29 _ _ (by kernel_rfl) (by kernel_rfl), eqFieldsF] at h2
    simp only [Sem.run_bind, h1, Result.andThen_ok]
    have h3 : (binOp .neq 29 (.agg [.int .i64 p, .int .i64 q].toArray) (.agg [.int .i64 r, .int .i64 s].toArray)).run Tryd.prog w = .ok (.bool (!(decide (p = r) && decide (q = s)))) w := by rw [h2]; rfl
    exact h3)
end

set_option maxHeartbeats 2000000 in
theorem lives_any (w : World) (hsg : SigAt 0 w) : Ret Tryd.prog 10 [] w fun v w' => v = .bool true ∧ Chg [] w w' := by
  refine ret_of [] Tryd.func10 rfl Tryd.ntmps10 rfl ?_
  have st := St.init w []
  obtain ⟨w0, rfl⟩ : ∃ w0, w0 = w := ⟨_, rfl⟩
  refine vc_seq ?_
  refine vc_region ?_
  refine vc_y rfl rfl (y_as rfl) ?_
  refine vc_end ?_
  refine vq_then ?_
  refine vc_keep [] trivial ?_
  refine vc_seq ?_
  refine vc_region ?_
  refine vc_e (e_call [_] rfl rfl Tryd.call16 rfl (parse_any liveS _ (hsg.kept st.chg (by simp))) ?_)
  rintro _ w h
  rw [ParsePost, live_res] at h
  obtain ⟨cw, _, ⟨os, ol, ot, cs, cl, ct, Sq, rfl, hT, hN⟩, rfl⟩ := h
  replace st := st.pushR cw (holds_pg hT) hN.2
  refine vc_y rfl rfl (y_mv rfl) ?_
  refine vc_y rfl rfl (y_ext rfl rfl) ?_
  refine vc_y rfl rfl (y_ext rfl rfl) ?_
  refine vc_y rfl rfl (y_ext rfl rfl) ?_
  refine vc_e (e_al (l := [_, _, _]) st rfl rfl Tryd.zeroValue44 rfl ?_)
  intro b1 w hb1 st
  refine vc_e (e_al (l := [_, _]) st rfl rfl Tryd.zeroValue29 rfl ?_)
  intro b3 w hb3 st
  refine vc_e (e_sts (vs := [_, _, _]) st 1 rfl rfl rfl rfl rfl Tryd.sizeOf44 rfl rfl (by first | (right; assumption) | (left; simp)) ?_)
  intro w st; dsimp only [setNth, wr] at st
  refine vc_y rfl rfl (y_as rfl) ?_
  refine vc_e (e_sts (vs := [_, _]) st 0 rfl rfl rfl rfl rfl Tryd.sizeOf29 rfl rfl (by first | (right; assumption) | (left; simp)) ?_)
  intro w st; dsimp only [setNth, wr] at st
  refine vc_end ?_
  refine vq_then ?_
  refine vc_keep [(1, _), (2, _)] ⟨rfl, rfl, trivial⟩ ?_
  refine vc_seq ?_
  refine vc_region ?_
  refine vc_e (e_call [_] rfl rfl Tryd.call16 rfl (parse_any deadS _ (hsg.kept st.chg (by simp))) ?_)
  rintro _ w h
  rw [ParsePost, dead_res] at h
  obtain ⟨cw, _, ⟨os2, ol2, ot2, cs2, cl2, ct2, Sq2, rfl, -, -⟩, rfl⟩ := h
  replace st := st.call0 cw
  refine vc_y rfl rfl (y_mv rfl) ?_
  refine vc_y rfl rfl (y_ext rfl rfl) ?_
  refine vc_y rfl rfl (y_ext rfl rfl) ?_
  refine vc_y rfl rfl (y_ext rfl rfl) ?_
  refine vc_e (e_al (l := [_, _, _]) st rfl rfl Tryd.zeroValue44 rfl ?_)
  intro b4 w hb4 st
  refine vc_e (e_al (l := [_, _]) st rfl rfl Tryd.zeroValue29 rfl ?_)
  intro b6 w hb6 st
  refine vc_e (e_sts (vs := [_, _, _]) st 1 rfl rfl rfl rfl rfl Tryd.sizeOf44 rfl rfl (by first | (right; assumption) | (left; simp)) ?_)
  intro w st; dsimp only [setNth, wr] at st
  refine vc_y rfl rfl (y_as rfl) ?_
  refine vc_e (e_sts (vs := [_, _]) st 0 rfl rfl rfl rfl rfl Tryd.sizeOf29 rfl rfl (by first | (right; assumption) | (left; simp)) ?_)
  intro w st; dsimp only [setNth, wr] at st
  refine vc_end ?_
  refine vq_then ?_
  refine vc_keep [(1, _), (2, _), (5, _), (6, _)] ⟨rfl, rfl, rfl, rfl, trivial⟩ ?_
  refine vc_seq ?_
  refine vc_seq ?_
  refine vc_region ?_
  obtain ⟨hsh, -, hth⟩ := pgS_rows (st.res (i := 4) rfl).1
  obtain ⟨bs, fs, rfl, hds⟩ := DcRow.gets hsh (by decide)
  obtain ⟨bt, ft, rfl, hts⟩ := hth.gets (by decide)
  obtain ⟨_, ob, _, cb, hthc, -, hsm⟩ := hts 0 _ rfl
  obtain ⟨bb, fb, rfl, hss⟩ := hsm.gets (by decide)
  obtain ⟨oe, _, _, ce, _, _, hsc, hex, -⟩ := hss 0 _ rfl
  obtain ⟨be, fe, rfl, hes⟩ := hex.gets (by decide)
  obtain ⟨ok, ck, hec, hkd⟩ := hes 0 _ rfl
  obtain ⟨bk, fk, rfl, hks⟩ := hkd.gets (by decide)
  obtain ⟨_, _, hkc, -⟩ := hks 1 _ rfl
  refine vc_y rfl rfl (y_mv rfl) ?_
  refine vc_y rfl rfl (y_nei rfl rfl) ?_
  refine vc_e (e_mvb rfl rfl rfl ?_ ?_)
  · intro hg20
    exact absurd hg20 (by decide)
  · intro hg20
    try simp only [dn] at hg20
    refine vc_y rfl rfl (y_mv rfl) ?_
    refine vc_y rfl rfl (y_nei rfl rfl) ?_
    refine vc_y rfl rfl (y_pickf rfl rfl) ?_
    refine vc_e (e_mvb rfl rfl rfl ?_ ?_)
    · intro hg24
      exact absurd hg24 (by decide)
    · intro hg24
      try simp only [dn] at hg24
      refine vc_y rfl rfl ((by exact y_lda (vs := [_, _]) st 0 rfl Tryd.isAgg29 Tryd.sizeOf29 rfl rfl)) ?_
      refine vc_y rfl rfl (y_bld (.agg #[_, _]) [(0, _), (1, _)] rfl (fun w => by simp [Instr.build, go_sem] <;> repeat' constructor)) ?_
      refine vc_y rfl rfl (y_neF rfl rfl) ?_
      refine vc_y rfl rfl (y_pickf rfl rfl) ?_
      refine vc_e (e_mvb rfl rfl rfl ?_ ?_)
      · intro hg29
        exact absurd hg29 (by decide)
      · intro hg29
        try simp only [dn] at hg29
        refine vc_y rfl rfl ((by exact y_faz (k := 2) rfl Tryd.underlying44 rfl rfl Tryd.sizeOf42 rfl)) ?_
        refine vc_y rfl rfl ((by exact y_ld st 3 rfl Tryd.isAgg42 rfl rfl)) ?_
        refine vc_y rfl rfl (y_lensl rfl Tryd.underlying42) ?_
        refine vc_y rfl rfl (y_nei rfl rfl) ?_
        refine vc_y rfl rfl (y_pickf rfl rfl) ?_
        refine vc_e (e_mvb rfl rfl rfl ?_ ?_)
        · intro hg35
          exact absurd hg35 (by decide)
        · intro hg35
          try simp only [dn] at hg35
          refine vc_y rfl rfl ((by exact y_faz (k := 2) rfl Tryd.underlying44 rfl rfl Tryd.sizeOf42 rfl)) ?_
          refine vc_y rfl rfl ((by exact y_ld st 3 rfl Tryd.isAgg42 rfl rfl)) ?_
          refine vc_y rfl rfl ((by exact y_ia (k := 0) rfl rfl Tryd.underlying42 Tryd.sizeOf78 rfl (by decide))) ?_
          refine vc_y rfl rfl ((by exact y_fa (k := 2) rfl Tryd.underlying78 rfl rfl Tryd.sizeOf76 rfl)) ?_
          refine vc_y rfl rfl ((by exact y_ldc rfl Tryd.isAgg76 (hthc 2 _ rfl))) ?_
          refine vc_y rfl rfl (y_lensl rfl Tryd.underlying76) ?_
          refine vc_y rfl rfl (y_nei rfl rfl) ?_
          refine vc_y rfl rfl (y_pickf rfl rfl) ?_
          refine vc_e (e_mvb rfl rfl rfl ?_ ?_)
          · intro hg44
            exact absurd hg44 (by decide)
          · intro hg44
            try simp only [dn] at hg44
            refine vc_y rfl rfl (y_fa0 rfl Tryd.underlying44 rfl rfl Tryd.sizeOf41 rfl) ?_
            refine vc_y rfl rfl ((by exact y_ld st 3 rfl Tryd.isAgg41 rfl rfl)) ?_
            refine vc_y rfl rfl (y_lensl rfl Tryd.underlying41) ?_
            refine vc_y rfl rfl (y_nei rfl rfl) ?_
            refine vc_y rfl rfl (y_pickf rfl rfl) ?_
            refine vc_e (e_mvb rfl rfl rfl ?_ ?_)
            · intro hg50
              exact absurd hg50 (by decide)
            · intro hg50
              try simp only [dn] at hg50
              refine vc_y rfl rfl (y_fa0 rfl Tryd.underlying44 rfl rfl Tryd.sizeOf41 rfl) ?_
              refine vc_y rfl rfl ((by exact y_ld st 3 rfl Tryd.isAgg41 rfl rfl)) ?_
              refine vc_y rfl rfl ((by exact y_ia (k := 0) rfl rfl Tryd.underlying41 Tryd.sizeOf80 rfl (by decide))) ?_
              refine vc_y rfl rfl ((by exact y_fa (k := 1) rfl Tryd.underlying80 rfl rfl Tryd.sizeOf2 rfl)) ?_
              refine vc_y rfl rfl ((by exact y_ldc rfl Tryd.isAgg2 (hds 0 _ rfl 1 _ rfl))) ?_
              refine vc_y rfl rfl (y_nei rfl rfl) ?_
              refine vc_y rfl rfl (y_pickf rfl rfl) ?_
              refine vc_end ?_
              refine vq_then ?_
              refine vc_keep [(1, _), (57, _)] ⟨rfl, rfl, trivial⟩ ?_
              refine vc_ifs rfl ?_ ?_
              · intro hc57
                exact absurd hc57 (by decide)
              · intro hc57
                try simp only [dn] at hc57
                refine vc_code_skip ?_
                refine vq_then ?_
                refine vc_keep [(1, _)] ⟨rfl, trivial⟩ ?_
                refine vc_seq ?_
                refine vc_region ?_
                refine vc_y rfl rfl ((by exact y_faz (k := 2) rfl Tryd.underlying44 rfl rfl Tryd.sizeOf42 rfl)) ?_
                refine vc_y rfl rfl ((by exact y_ld st 3 rfl Tryd.isAgg42 rfl rfl)) ?_
                refine vc_y rfl rfl ((by exact y_ia (k := 0) rfl rfl Tryd.underlying42 Tryd.sizeOf78 rfl (by decide))) ?_
                refine vc_y rfl rfl ((by exact y_fa (k := 2) rfl Tryd.underlying78 rfl rfl Tryd.sizeOf76 rfl)) ?_
                refine vc_y rfl rfl ((by exact y_ldc rfl Tryd.isAgg76 (hthc 2 _ rfl))) ?_
                refine vc_y rfl rfl ((by exact y_ia (k := 0) rfl rfl Tryd.underlying76 Tryd.sizeOf83 rfl (by decide))) ?_
                refine vc_y rfl rfl ((by exact y_fa (k := 3) rfl Tryd.underlying83 rfl rfl Tryd.sizeOf24 rfl)) ?_
                refine vc_y rfl rfl ((by exact y_ldc rfl Tryd.isAgg24 (hsc 3 _ rfl))) ?_
                refine vc_y rfl rfl (y_as rfl) ?_
                refine vc_end ?_
                refine vq_then ?_
                refine vc_keep [(7, _)] ⟨rfl, trivial⟩ ?_
                refine vc_seq ?_
                refine vc_region ?_
                refine vc_y rfl rfl (y_mv rfl) ?_
                refine vc_y rfl rfl (y_lensl rfl Tryd.underlying24) ?_
                refine vc_y rfl rfl (y_eqi rfl rfl) ?_
                refine vc_e (e_mvb rfl rfl rfl ?_ ?_)
                · intro hg69
                  try simp only [dn] at hg69
                  refine vc_y rfl rfl (y_mv rfl) ?_
                  refine vc_y rfl rfl ((by exact y_ia (k := 0) rfl rfl Tryd.underlying24 Tryd.sizeOf26 rfl (by decide))) ?_
                  refine vc_y rfl rfl ((by exact y_fa (k := 1) rfl Tryd.underlying26 rfl rfl Tryd.sizeOf23 rfl)) ?_
                  refine vc_y rfl rfl ((by exact y_ldc rfl Tryd.isAgg23 (hec 1 _ rfl))) ?_
                  refine vc_y rfl rfl (y_eqi rfl rfl) ?_
                  refine vc_y rfl rfl (y_pickt rfl rfl) ?_
                  refine vc_e (e_mvb rfl rfl rfl ?_ ?_)
                  · intro hg76
                    try simp only [dn] at hg76
                    refine vc_y rfl rfl (y_mv rfl) ?_
                    refine vc_y rfl rfl ((by exact y_ia (k := 0) rfl rfl Tryd.underlying24 Tryd.sizeOf26 rfl (by decide))) ?_
                    refine vc_y rfl rfl ((by exact y_fa (k := 4) rfl Tryd.underlying26 rfl rfl Tryd.sizeOf24 rfl)) ?_
                    refine vc_y rfl rfl ((by exact y_ldc rfl Tryd.isAgg24 (hec 4 _ rfl))) ?_
                    refine vc_y rfl rfl (y_lensl rfl Tryd.underlying24) ?_
                    refine vc_y rfl rfl (y_eqi rfl rfl) ?_
                    refine vc_y rfl rfl (y_pickt rfl rfl) ?_
                    refine vc_e (e_mvb rfl rfl rfl ?_ ?_)
                    · intro hg84
                      try simp only [dn] at hg84
                      refine vc_y rfl rfl (y_mv rfl) ?_
                      refine vc_y rfl rfl ((by exact y_ia (k := 0) rfl rfl Tryd.underlying24 Tryd.sizeOf26 rfl (by decide))) ?_
                      refine vc_y rfl rfl ((by exact y_fa (k := 4) rfl Tryd.underlying26 rfl rfl Tryd.sizeOf24 rfl)) ?_
                      refine vc_y rfl rfl ((by exact y_ldc rfl Tryd.isAgg24 (hec 4 _ rfl))) ?_
                      refine vc_y rfl rfl ((by exact y_ia (k := 1) rfl rfl Tryd.underlying24 Tryd.sizeOf26 rfl (by decide))) ?_
                      refine vc_y rfl rfl ((by exact y_fa (k := 1) rfl Tryd.underlying26 rfl rfl Tryd.sizeOf23 rfl)) ?_
                      refine vc_y rfl rfl ((by exact y_ldc rfl Tryd.isAgg23 (hkc 1 _ rfl))) ?_
                      refine vc_y rfl rfl (y_eqi rfl rfl) ?_
                      refine vc_y rfl rfl (y_pickt rfl rfl) ?_
                      refine vc_y rfl rfl (y_as rfl) ?_
                      refine vc_end ?_
                      refine vq_then ?_
                      refine vc_keep [(0, _)] ⟨rfl, trivial⟩ ?_
                      refine vc_ret ?_
                      refine vq_ret1 st (.inl rfl) Tryd.results10 (.tmp rfl) ?_
                      refine ⟨_, rfl, ?_⟩
                      exact ⟨rfl, st.chg⟩
                    · intro hg84
                      exact absurd hg84 (by decide)
                  · intro hg76
                    exact absurd hg76 (by decide)
                · intro hg69
                  exact absurd hg69 (by decide)

end Go.Proofs.YtggnfanphcaamaaDoor


/- The engine, twentieth part: trees whose numbers are of their kinds; how great they are; arguments that are trees, opened. -/
namespace Sx
open Go Go.RowKit
set_option linter.unusedVariables false
set_option linter.unusedSimpArgs false
/-! ## numbers are of their kinds -/
def i64 (x : Int) : Prop := -9223372036854775808 ≤ x ∧ x ≤ 9223372036854775807
def u8 (x : Int) : Prop := 0 ≤ x ∧ x ≤ 255
inductive OkE : Ex → Prop
  | mk {k op wd : Int} {nm : List UInt8} {kids : List Ex} {a : Int} (h1 : u8 k) (h2 : u8 op) (h3 : i64 wd) (h4 : i64 a) (hn : kids.length ≤ 1099511627776) (hk : ∀ (j : Nat) x, kids[j]? = some x → OkE x) : OkE (.mk k op wd nm kids a)
theorem OkE.k {e : Ex} (h : OkE e) : u8 e.k := by cases h; assumption
theorem OkE.op {e : Ex} (h : OkE e) : u8 e.op := by cases h; assumption
theorem OkE.wd {e : Ex} (h : OkE e) : i64 e.wd := by cases h; assumption
theorem OkE.a {e : Ex} (h : OkE e) : i64 e.a := by cases h; assumption
theorem OkE.kid {e x : Ex} {j : Nat} (h : OkE e) (hj : e.kids[j]? = some x) : OkE x := by cases h with | mk h1 h2 h3 h4 hn hk => exact hk j x hj
def OkEs (es : List Ex) : Prop := es.length ≤ 1099511627776 ∧ ∀ (j : Nat) x, es[j]? = some x → OkE x
theorem OkE.kids {e : Ex} (h : OkE e) : OkEs e.kids := ⟨by cases h; assumption, fun j x hx => h.kid hx⟩
inductive OkS : Sm → Prop
  | mk {k : Int} {nm other : List UInt8} {e : List Ex} {body els : List Sm} {a : Int} (h1 : u8 k) (h2 : i64 a) (he : OkEs e) (hnb : body.length ≤ 1099511627776) (hb : ∀ (j : Nat) x, body[j]? = some x → OkS x) (hnl : els.length ≤ 1099511627776) (hl : ∀ (j : Nat) x, els[j]? = some x → OkS x) : OkS (.mk k nm other e body els a)
def OkSs (ss : List Sm) : Prop := ss.length ≤ 1099511627776 ∧ ∀ (j : Nat) x, ss[j]? = some x → OkS x
theorem OkS.k {s : Sm} (h : OkS s) : u8 s.k := by cases h; assumption
theorem OkS.a {s : Sm} (h : OkS s) : i64 s.a := by cases h; assumption
theorem OkS.e {s : Sm} (h : OkS s) : OkEs s.e := by cases h; assumption
theorem OkS.body {s : Sm} (h : OkS s) : OkSs s.body := by cases h with | mk h1 h2 he hnb hb hnl hl => exact ⟨hnb, hb⟩
theorem OkS.els {s : Sm} (h : OkS s) : OkSs s.els := by cases h with | mk h1 h2 he hnb hb hnl hl => exact ⟨hnl, hl⟩
def OkD (ds : List Dc) : Prop := ds.length ≤ 1099511627776 ∧ ∀ (j : Nat) x, ds[j]? = some x → i64 x.wd ∧ i64 x.a
def OkT (ts : List Th) : Prop := ts.length ≤ 1099511627776 ∧ ∀ (j : Nat) t, ts[j]? = some t → OkD t.locals ∧ OkSs t.body ∧ i64 t.a
def OkP (p : Pg) : Prop := OkD p.shared ∧ OkD p.locks ∧ OkT p.threads

/-! ## how great a tree is -/
mutual
def szE : Ex → Nat
  | .mk k op wd nm kids a => nm.length + szEs kids + 1
termination_by structural e => e
def szEs : List Ex → Nat
  | [] => 0
  | e :: r => szE e + szEs r
termination_by structural l => l
end
mutual
def szS : Sm → Nat
  | .mk k nm other e body els a => nm.length + other.length + szEs e + szSs body + szSs els + 1
termination_by structural e => e
def szSs : List Sm → Nat
  | [] => 0
  | e :: r => szS e + szSs r
termination_by structural l => l
end
def szDs : List Dc → Nat
  | [] => 0
  | d :: r => d.nm.length + 1 + szDs r
def szTs : List Th → Nat
  | [] => 0
  | t :: r => t.nm.length + szDs t.locals + szSs t.body + 1 + szTs r
def szP (p : Pg) : Nat := szDs p.shared + szDs p.locks + szTs p.threads

mutual
def bulkW {H : Type} : DataW H → Nat
  | .lit (.string bytes) => bytes.length + 1
  | .lit _ => 1
  | .nil => 1
  | .ptr d => bulkW d + 1
  | .slice elems spare => bulkWs elems + bulkWs spare + 1
  | .agg parts => bulkWs parts + 1
  | .iface _ d => bulkW d + 1
  | .map _ => 1
  | .held _ => 1
def bulkWs {H : Type} : List (DataW H) → Nat
  | [] => 0
  | d :: r => bulkW d + bulkWs r
end
theorem bulkW_pos {H : Type} (d : DataW H) : 1 ≤ bulkW d := by
  cases d with
  | lit l => cases l <;> simp [bulkW]
  | _ => simp [bulkW] <;> omega

/-! ## opened -/
def fitsB (P : Program) (t : TypeId) (ts : List TypeId) : Bool := match P.underlying t with
  | some (.struct fs) => decide (fs.toList.map (fun f => (f.type, f.offset, P.cellsOf f.type)) = (List.range ts.length).map (fun i => (ts.getD i 0, i, 1))) && decide (P.cellsOf t = ts.length)
  | _ => false
def isIntB (P : Program) (t : TypeId) (k : IntKind) : Bool := match P.underlying t with | some (.int j) => decide (j = k) | _ => false
def isStrB (P : Program) (t : TypeId) : Bool := match P.underlying t with | some .string => true | _ => false
def isSliceB (P : Program) (t e : TypeId) : Bool := match P.underlying t with | some (.slice x) => decide (x = e) | _ => false
theorem isInt_of {P : Program} {t : TypeId} {k : IntKind} (h : isIntB P t k = true) : P.underlying t = some (.int k) := by
  unfold isIntB at h
  split at h
  · rename_i j hj; simp at h; subst h; exact hj
  · cases h
theorem isStr_of {P : Program} {t : TypeId} (h : isStrB P t = true) : P.underlying t = some .string := by
  unfold isStrB at h
  split at h
  · assumption
  · cases h
theorem isSlice_of {P : Program} {t e : TypeId} (h : isSliceB P t e = true) : P.underlying t = some (.slice e) := by
  unfold isSliceB at h
  split at h
  · rename_i j hj; simp at h; subst h; exact hj
  · cases h
structure TyIds where
  k1 : TypeId
  op : TypeId
  wd : TypeId
  str : TypeId
  es : TypeId
  e : TypeId
  int : TypeId
  k2 : TypeId
  ss : TypeId
  s : TypeId
  ds : TypeId
  d : TypeId
  ts : TypeId
  t : TypeId
  pg : TypeId
def okIds (P : Program) (I : TyIds) : Bool := fitsB P I.e [I.k1, I.op, I.wd, I.str, I.es, I.int] && fitsB P I.s [I.k2, I.str, I.str, I.es, I.ss, I.ss, I.int] && fitsB P I.d [I.str, I.wd, I.int] && fitsB P I.t [I.str, I.ds, I.ss, I.int] && fitsB P I.pg [I.ds, I.ds, I.ts] &&
  isIntB P I.k1 .u8 && isIntB P I.op .u8 && isIntB P I.wd .i64 && isIntB P I.int .i64 && isIntB P I.k2 .u8 && isStrB P I.str && isSliceB P I.es I.e && isSliceB P I.ss I.s && isSliceB P I.ds I.d && isSliceB P I.ts I.t
section
variable {H : Type} {enc : TypeId × Value → H} {P : Program} {w : World}
abbrev Tr (enc : TypeId × Value → H) (P : Program) (w : World) (fuel : Nat) (t : TypeId) (cs : List Value) := DataW.trod enc P w 0 (fun _ => true) true fuel t cs
theorem open_fields {t : TypeId} {ts : List TypeId} {fuel : Nat} {cs : List Value} {d : DataW H} {ps : List MemPlace} (hf : fitsB P t ts = true) (h : Tr enc P w fuel t cs = some (d, ps)) :
    ∃ n ds, fuel = n + 1 ∧ d = .agg ds ∧ ds.length = ts.length ∧ cs.length = ts.length ∧ P.cellsOf t = ts.length ∧ ∀ (i : Nat) a c di, ts[i]? = some a → cs[i]? = some c → ds[i]? = some di → ∃ p, Tr enc P w n a [c] = some (di, p) := by
  unfold fitsB at hf
  split at hf
  · rename_i fs ht
    simp only [Bool.and_eq_true, decide_eq_true_eq] at hf
    obtain ⟨h1, h2⟩ := hf
    obtain ⟨xs, n, rfl, hx, hl, hxl, hall⟩ := DataW.trod_struct ht h
    simp only [Prod.mk.injEq] at hx
    have hn : fs.size = ts.length := by have := congrArg List.length h1; simpa using this
    refine ⟨n, xs.map (·.1), rfl, hx.1, by simp [hxl, hn], by omega, h2, fun i a c di ha hc hd => ?_⟩
    have hi : i < ts.length := (List.getElem?_eq_some_iff.1 ha).1
    have hfi : fs[i]? = some fs[i] := Array.getElem?_eq_getElem (by omega)
    have e := congrArg (·[i]?) h1
    simp only [List.getElem?_map, Array.getElem?_toList, hfi, Option.map_some, List.getElem?_range hi, Option.some.injEq, Prod.mk.injEq] at e
    obtain ⟨e1, e2, e3⟩ := e
    have hta : ts.getD i 0 = a := by rw [List.getD, ha]; rfl
    have hh := hall i _ hfi
    rw [e3, e2, e1, hta] at hh
    have hcs : (cs.drop i).take 1 = [c] := by
      have hlt := (List.getElem?_eq_some_iff.1 hc)
      rw [List.drop_eq_getElem_cons hlt.1, hlt.2]; rfl
    rw [hcs] at hh
    rw [List.getElem?_map] at hd
    cases hxi : xs[i]? with
    | none => rw [hxi] at hd; cases hd
    | some y =>
      rw [hxi] at hd hh
      simp only [Option.map_some, Option.some.injEq] at hd
      subst hd
      exact ⟨y.2, hh⟩
  · cases hf
theorem bulkWs_get {ds : List (DataW H)} {i : Nat} {d : DataW H} (h : ds[i]? = some d) : bulkW d ≤ bulkWs ds := by
  induction ds generalizing i with
  | nil => simp at h
  | cons x r ih =>
    cases i with
    | zero => simp at h; subst h; simp [bulkWs]
    | succ i => simp at h; have := ih h; simp only [bulkWs]; omega
theorem bulkWs_len (ds : List (DataW H)) : ds.length ≤ bulkWs ds := by
  induction ds with
  | nil => simp [bulkWs]
  | cons x r ih => have := bulkW_pos x; simp only [bulkWs, List.length_cons]; omega
theorem sum_le {α : Type} {f : α → Nat} : ∀ {l : List α} {ds : List (DataW H)}, l.length = ds.length → (∀ (j : Nat) x dd, l[j]? = some x → ds[j]? = some dd → f x ≤ bulkW dd) → (l.map f).sum ≤ bulkWs ds
  | [], [], _, _ => by simp
  | x :: r, d :: s, hl, h => by
    have h0 := h 0 x d rfl rfl
    have := sum_le (f := f) (l := r) (ds := s) (by simpa using hl) fun j y dd h1 h2 => h (j + 1) y dd (by simpa using h1) (by simpa using h2)
    simp only [List.map_cons, List.sum_cons, bulkWs]; omega
  | [], _ :: _, hl, _ => by simp at hl
  | _ :: _, [], hl, _ => by simp at hl
theorem open_list {α : Type} {B : Nat} {t e : TypeId} {sz fuel : Nat} {v : Value} {d : DataW H} {ps : List MemPlace} (hs : isSliceB P t e = true) (hc : P.cellsOf e = sz) (h0 : 0 < sz) (h : Tr enc P w fuel t [v] = some (d, ps)) (hB : bulkW d ≤ B)
    (V : α → List Value → Prop) (f : α → Nat) (x0 : α) (each : ∀ n, n < fuel → ∀ cs d ps, Tr enc P w n e cs = some (d, ps) → bulkW d ≤ B → ∃ x, V x cs ∧ f x ≤ bulkW d) :
    ∃ (oa : Option Addr) (cap : Nat) (l : List α) (vs : Nat → List Value), v = .slice oa l.length cap ∧ RowC w (· < w.heap.size) sz oa l.length vs ∧ (∀ (j : Nat) x, l[j]? = some x → V x (vs j)) ∧ (l.map f).sum ≤ bulkW d ∧ l.length ≤ bulkW d := by
  obtain ⟨oa, len, cap, n, elems, rest, rfl, hel, -, -, hn, hd, hrow⟩ := open_row (isSlice_of hs) hc h0 h
  rcases hrow with rfl | ⟨b, off, rfl, hall⟩
  · exact ⟨oa, cap, [], fun _ => [], rfl, .inl rfl, fun j x hx => by simp at hx, by simp, by simp⟩
  rcases hd with ⟨-, rfl, -⟩ | rfl
  · exact ⟨_, cap, [], fun _ => [], rfl, .inl rfl, fun j x hx => by simp at hx, by simp, by simp⟩
  have hbulk : bulkWs elems + bulkWs rest + 1 ≤ B := by simpa [bulkW] using hB
  obtain ⟨l, hl, hP⟩ := exists_list (x0, ([] : List Value)) len (fun j (y : α × List Value) => V y.1 y.2 ∧ y.2.length = sz ∧ (∃ dd, elems[j]? = some dd ∧ f y.1 ≤ bulkW dd) ∧ ∀ i u, y.2[i]? = some u → w.cell? ⟨b, off + j * sz + i, none⟩ = some u) fun j hj => by
    obtain ⟨cs, pp, dd, h1, h2, h3, h4⟩ := hall j hj
    have hle := bulkWs_get h2
    obtain ⟨x, hx, hfx⟩ := each n hn cs dd pp h3 (by omega)
    exact ⟨(x, cs), hx, h1, ⟨dd, h2, hfx⟩, h4⟩
  have hlm : (l.map (·.1)).length = len := by simpa using hl
  have hget : ∀ {j : Nat} {x : α}, (l.map (·.1))[j]? = some x → j < len ∧ (l.getD j (x0, [])).1 = x := by
    intro j x hx
    rw [List.getElem?_map] at hx
    cases hj : l[j]? with
    | none => rw [hj] at hx; cases hx
    | some y =>
      rw [hj] at hx
      simp only [Option.map_some, Option.some.injEq] at hx
      exact ⟨by have := (List.getElem?_eq_some_iff.1 hj).1; omega, by rw [List.getD, hj]; exact hx⟩
  refine ⟨some ⟨b, off, none⟩, cap, l.map (·.1), fun j => (l.getD j (x0, [])).2, by rw [hlm], ?_, fun j x hx => ?_, ?_, ?_⟩
  · rw [hlm]
    rcases Nat.eq_zero_or_pos len with hz | hz
    · exact .inl hz
    · refine .inr ⟨b, off, rfl, ?_, ?_, fun j hj => ⟨(hP j hj).2.1, (hP j hj).2.2.2⟩⟩ <;>
      · have h5 := (hP 0 hz).2.1
        have h6 := (hP 0 hz).2.2.2 0 ((l.getD 0 (x0, [])).2[0]'(by omega)) (by simp)
        exact World.block_lt_of_cell? w _ h6
  · obtain ⟨hj, rfl⟩ := hget hx
    exact (hP j hj).1
  · have := sum_le (f := f) (l := l.map (·.1)) (ds := elems) (by omega) fun j x dd hx hdd => by
      obtain ⟨hj, rfl⟩ := hget hx
      obtain ⟨dd', h1, h2⟩ := (hP j hj).2.2.1
      rw [hdd] at h1
      cases h1
      exact h2
    simp only [bulkW]; omega
  · have := bulkWs_len elems
    rw [hlm]; simp only [bulkW]; omega
theorem szEs_sum (l : List Ex) : szEs l = (l.map szE).sum := by
  induction l with
  | nil => simp [szEs]
  | cons x r ih => simp [szEs, ih]
theorem szSs_sum (l : List Sm) : szSs l = (l.map szS).sum := by
  induction l with
  | nil => simp [szSs]
  | cons x r ih => simp [szSs, ih]
theorem szDs_sum (l : List Dc) : szDs l = (l.map fun d => d.nm.length + 1).sum := by
  induction l with
  | nil => simp [szDs]
  | cons x r ih => simp [szDs, ih]
theorem szTs_sum (l : List Th) : szTs l = (l.map fun t => t.nm.length + szDs t.locals + szSs t.body + 1).sum := by
  induction l with
  | nil => simp [szTs]
  | cons x r ih => simp [szTs, ih]
theorem bounds64 {n : Int} (h : (Lit.int .i64 n).wf = true) : i64 n := by
  simp only [Lit.wf, IntKind.min, IntKind.max, IntKind.signed, IntKind.bits] at h
  simp at h
  exact ⟨by omega, by omega⟩
theorem bounds8 {n : Int} (h : (Lit.int .u8 n).wf = true) : u8 n := by
  simp only [Lit.wf, IntKind.min, IntKind.max, IntKind.signed, IntKind.bits] at h
  simp at h
  exact ⟨by omega, by omega⟩
variable {I : TyIds}
theorem okIds_inv (h : okIds P I = true) : fitsB P I.e [I.k1, I.op, I.wd, I.str, I.es, I.int] = true ∧ fitsB P I.s [I.k2, I.str, I.str, I.es, I.ss, I.ss, I.int] = true ∧ fitsB P I.d [I.str, I.wd, I.int] = true ∧ fitsB P I.t [I.str, I.ds, I.ss, I.int] = true ∧ fitsB P I.pg [I.ds, I.ds, I.ts] = true ∧
    isIntB P I.k1 .u8 = true ∧ isIntB P I.op .u8 = true ∧ isIntB P I.wd .i64 = true ∧ isIntB P I.int .i64 = true ∧ isIntB P I.k2 .u8 = true ∧ isStrB P I.str = true ∧ isSliceB P I.es I.e = true ∧ isSliceB P I.ss I.s = true ∧ isSliceB P I.ds I.d = true ∧ isSliceB P I.ts I.t = true := by
  unfold okIds at h
  simp only [Bool.and_eq_true] at h
  simp_all
theorem str_of (s : ByteArray) : Value.string s = str s.data.toList := by cases s; rfl
theorem open_ex (hI : okIds P I = true) : ∀ (fuel : Nat) (cs : List Value) (d : DataW H) (ps : List MemPlace), Tr enc P w fuel I.e cs = some (d, ps) → bulkW d ≤ 1048576 → ∃ e, (ExV w (· < w.heap.size) e cs ∧ OkE e) ∧ szE e ≤ bulkW d := by
  intro fuel
  refine Nat.strongRecOn fuel fun fuel ih => ?_
  intro cs d ps h hB
  obtain ⟨fe, -, -, -, -, k1, op, wd, it, -, st, es, -⟩ := okIds_inv hI
  obtain ⟨n, ds, rfl, rfl, hdl, hcl, hce, hall⟩ := open_fields fe h
  match cs, hcl, ds, hdl with
  | [c0, c1, c2, c3, c4, c5], _, [d0, d1, d2, d3, d4, d5], _ =>
    obtain ⟨_, h0⟩ := hall 0 _ _ _ rfl rfl rfl
    obtain ⟨_, h1⟩ := hall 1 _ _ _ rfl rfl rfl
    obtain ⟨_, h2⟩ := hall 2 _ _ _ rfl rfl rfl
    obtain ⟨_, h3⟩ := hall 3 _ _ _ rfl rfl rfl
    obtain ⟨_, h4⟩ := hall 4 _ _ _ rfl rfl rfl
    obtain ⟨_, h5⟩ := hall 5 _ _ _ rfl rfl rfl
    obtain ⟨a0, e0, x0, w0⟩ := DataW.trod_int (isInt_of k1) h0
    obtain ⟨a1, e1, x1, w1⟩ := DataW.trod_int (isInt_of op) h1
    obtain ⟨a2, e2, x2, w2⟩ := DataW.trod_int (isInt_of wd) h2
    obtain ⟨a3, e3, x3, w3⟩ := DataW.trod_string (isStr_of st) h3
    obtain ⟨a5, e5, x5, w5⟩ := DataW.trod_int (isInt_of it) h5
    simp only [List.cons.injEq, and_true, Prod.mk.injEq] at e0 e1 e2 e3 e5 x0 x1 x2 x3 x5
    obtain ⟨rfl, -⟩ := x0; obtain ⟨rfl, -⟩ := x1; obtain ⟨rfl, -⟩ := x2; obtain ⟨rfl, -⟩ := x3; obtain ⟨rfl, -⟩ := x5
    subst e0 e1 e2 e3 e5
    simp only [bulkW, bulkWs] at hB
    obtain ⟨oa, cap, l, vs, rfl, hrow, hV, hsum, hlen⟩ := open_list (B := 1048576) es (show P.cellsOf I.e = 6 from hce) (by omega) h4 (by omega) (fun e cs => ExV w (· < w.heap.size) e cs ∧ OkE e) szE ex0 (fun m hm cs d ps ht hb => ih m (by omega) cs d ps ht hb)
    refine ⟨.mk a0 a1 a2 a3.data.toList l a5, ⟨?_, ?_⟩, ?_⟩
    · rw [str_of a3]
      exact .mk vs hrow fun j x hx => (hV j x hx).1
    · exact .mk (bounds8 w0) (bounds8 w1) (bounds64 w2) (bounds64 w5) (by omega) fun j x hx => (hV j x hx).2
    · simp only [szE, szEs_sum, bulkW, bulkWs]; omega
theorem open_exs (hI : okIds P I = true) {fuel : Nat} {v : Value} {d : DataW H} {ps : List MemPlace} (h : Tr enc P w fuel I.es [v] = some (d, ps)) (hB : bulkW d ≤ 1048576) :
    ∃ (oa : Option Addr) (cap : Nat) (l : List Ex), v = .slice oa l.length cap ∧ ExRow w (· < w.heap.size) oa l ∧ OkEs l ∧ szEs l ≤ bulkW d := by
  obtain ⟨fe, -, -, -, -, -, -, -, -, -, -, es, -⟩ := okIds_inv hI
  have hce : P.cellsOf I.e = 6 := by
    have := fe
    unfold fitsB at this
    split at this
    · simp only [Bool.and_eq_true, decide_eq_true_eq] at this; exact this.2
    · cases this
  obtain ⟨oa, cap, l, vs, rfl, hrow, hV, hsum, hlen⟩ := open_list (B := 1048576) es hce (by omega) h hB (fun e cs => ExV w (· < w.heap.size) e cs ∧ OkE e) szE ex0 (fun m hm cs d ps ht hb => open_ex hI m cs d ps ht hb)
  exact ⟨oa, cap, l, rfl, ⟨vs, hrow, fun j x hx => (hV j x hx).1⟩, ⟨by omega, fun j x hx => (hV j x hx).2⟩, by rw [szEs_sum]; exact hsum⟩
theorem cells_fits {t : TypeId} {ts : List TypeId} (h : fitsB P t ts = true) : P.cellsOf t = ts.length := by
  unfold fitsB at h
  split at h
  · simp only [Bool.and_eq_true, decide_eq_true_eq] at h; exact h.2
  · cases h
theorem open_sm (hI : okIds P I = true) : ∀ (fuel : Nat) (cs : List Value) (d : DataW H) (ps : List MemPlace), Tr enc P w fuel I.s cs = some (d, ps) → bulkW d ≤ 1048576 → ∃ s, (SmV w (· < w.heap.size) s cs ∧ OkS s) ∧ szS s ≤ bulkW d := by
  intro fuel
  refine Nat.strongRecOn fuel fun fuel ih => ?_
  intro cs d ps h hB
  obtain ⟨-, fs, -, -, -, -, -, -, it, k2, st, -, ss, -⟩ := okIds_inv hI
  obtain ⟨n, ds, rfl, rfl, hdl, hcl, hce, hall⟩ := open_fields fs h
  match cs, hcl, ds, hdl with
  | [c0, c1, c2, c3, c4, c5, c6], _, [d0, d1, d2, d3, d4, d5, d6], _ =>
    obtain ⟨_, h0⟩ := hall 0 _ _ _ rfl rfl rfl
    obtain ⟨_, h1⟩ := hall 1 _ _ _ rfl rfl rfl
    obtain ⟨_, h2⟩ := hall 2 _ _ _ rfl rfl rfl
    obtain ⟨_, h3⟩ := hall 3 _ _ _ rfl rfl rfl
    obtain ⟨_, h4⟩ := hall 4 _ _ _ rfl rfl rfl
    obtain ⟨_, h5⟩ := hall 5 _ _ _ rfl rfl rfl
    obtain ⟨_, h6⟩ := hall 6 _ _ _ rfl rfl rfl
    obtain ⟨a0, e0, x0, w0⟩ := DataW.trod_int (isInt_of k2) h0
    obtain ⟨a1, e1, x1, w1⟩ := DataW.trod_string (isStr_of st) h1
    obtain ⟨a2, e2, x2, w2⟩ := DataW.trod_string (isStr_of st) h2
    obtain ⟨a6, e6, x6, w6⟩ := DataW.trod_int (isInt_of it) h6
    simp only [List.cons.injEq, and_true, Prod.mk.injEq] at e0 e1 e2 e6 x0 x1 x2 x6
    obtain ⟨rfl, -⟩ := x0; obtain ⟨rfl, -⟩ := x1; obtain ⟨rfl, -⟩ := x2; obtain ⟨rfl, -⟩ := x6
    subst e0 e1 e2 e6
    simp only [bulkW, bulkWs] at hB
    obtain ⟨oe, ce, le, rfl, hre, hoke, hse⟩ := open_exs hI h3 (by omega)
    obtain ⟨ob, cb, lb, vb, rfl, hrowb, hVb, hsumb, hlenb⟩ := open_list (B := 1048576) ss (show P.cellsOf I.s = 7 from hce) (by omega) h4 (by omega) (fun e cs => SmV w (· < w.heap.size) e cs ∧ OkS e) szS sm0 (fun m hm cs d ps ht hb => ih m (by omega) cs d ps ht hb)
    obtain ⟨ol, cl, ll, vl, rfl, hrowl, hVl, hsuml, hlenl⟩ := open_list (B := 1048576) ss (show P.cellsOf I.s = 7 from hce) (by omega) h5 (by omega) (fun e cs => SmV w (· < w.heap.size) e cs ∧ OkS e) szS sm0 (fun m hm cs d ps ht hb => ih m (by omega) cs d ps ht hb)
    refine ⟨.mk a0 a1.data.toList a2.data.toList le lb ll a6, ⟨?_, ?_⟩, ?_⟩
    · rw [str_of a1, str_of a2]
      exact .mk vb vl hre hrowb (fun j x hx => (hVb j x hx).1) hrowl (fun j x hx => (hVl j x hx).1)
    · exact .mk (bounds8 w0) (bounds64 w6) hoke (by omega) (fun j x hx => (hVb j x hx).2) (by omega) (fun j x hx => (hVl j x hx).2)
    · simp only [szS, szSs_sum, bulkW, bulkWs]; omega
theorem open_sms (hI : okIds P I = true) {fuel : Nat} {v : Value} {d : DataW H} {ps : List MemPlace} (h : Tr enc P w fuel I.ss [v] = some (d, ps)) (hB : bulkW d ≤ 1048576) :
    ∃ (oa : Option Addr) (cap : Nat) (l : List Sm), v = .slice oa l.length cap ∧ SmRow w (· < w.heap.size) oa l ∧ OkSs l ∧ szSs l ≤ bulkW d := by
  obtain ⟨-, fs, -, -, -, -, -, -, -, -, -, -, ss, -⟩ := okIds_inv hI
  obtain ⟨oa, cap, l, vs, rfl, hrow, hV, hsum, hlen⟩ := open_list (B := 1048576) ss (show P.cellsOf I.s = 7 from cells_fits fs) (by omega) h hB (fun e cs => SmV w (· < w.heap.size) e cs ∧ OkS e) szS sm0 (fun m hm cs d ps ht hb => open_sm hI m cs d ps ht hb)
  exact ⟨oa, cap, l, rfl, ⟨vs, hrow, fun j x hx => (hV j x hx).1⟩, ⟨by omega, fun j x hx => (hV j x hx).2⟩, by rw [szSs_sum]; exact hsum⟩
theorem open_ds (hI : okIds P I = true) {fuel : Nat} {v : Value} {d : DataW H} {ps : List MemPlace} (h : Tr enc P w fuel I.ds [v] = some (d, ps)) (hB : bulkW d ≤ 1048576) :
    ∃ (oa : Option Addr) (cap : Nat) (l : List Dc), v = .slice oa l.length cap ∧ DcRow w (· < w.heap.size) oa l ∧ OkD l ∧ szDs l ≤ bulkW d := by
  obtain ⟨-, -, fd, -, -, -, -, wd, it, -, st, -, -, dds, -⟩ := okIds_inv hI
  obtain ⟨oa, cap, l, vs, rfl, hrow, hV, hsum, hlen⟩ := open_list (B := 1048576) dds (show P.cellsOf I.d = 3 from cells_fits fd) (by omega) h hB (fun (x : Dc) cs => cs = dcL x ∧ i64 x.wd ∧ i64 x.a) (fun x => x.nm.length + 1) dc0 (fun m hm cs d ps ht hb => by
    obtain ⟨n, ds, rfl, rfl, hdl, hcl, hce, hall⟩ := open_fields fd ht
    match cs, hcl, ds, hdl with
    | [c0, c1, c2], _, [d0, d1, d2], _ =>
      obtain ⟨_, h0⟩ := hall 0 _ _ _ rfl rfl rfl
      obtain ⟨_, h1⟩ := hall 1 _ _ _ rfl rfl rfl
      obtain ⟨_, h2⟩ := hall 2 _ _ _ rfl rfl rfl
      obtain ⟨a0, e0, x0, w0⟩ := DataW.trod_string (isStr_of st) h0
      obtain ⟨a1, e1, x1, w1⟩ := DataW.trod_int (isInt_of wd) h1
      obtain ⟨a2, e2, x2, w2⟩ := DataW.trod_int (isInt_of it) h2
      simp only [List.cons.injEq, and_true, Prod.mk.injEq] at e0 e1 e2 x0 x1 x2
      obtain ⟨rfl, -⟩ := x0; obtain ⟨rfl, -⟩ := x1; obtain ⟨rfl, -⟩ := x2
      subst e0 e1 e2
      exact ⟨⟨a0.data.toList, a1, a2⟩, ⟨by rw [str_of a0]; rfl, bounds64 w1, bounds64 w2⟩, by simp only [bulkW, bulkWs]; omega⟩)
  refine ⟨oa, cap, l, rfl, ?_, ⟨by omega, fun j x hx => (hV j x hx).2⟩, by rw [szDs_sum]; exact hsum⟩
  refine hrow.imp id fun ⟨b, off, e, hb, hl, hc⟩ => ⟨b, off, e, hb, hl, fun j hj => ?_⟩
  have hx := List.getElem?_eq_getElem hj
  have := hc j hj
  rw [(hV j _ hx).1] at this
  simpa only [List.getD, hx, Option.getD_some] using this
theorem open_ts (hI : okIds P I = true) {fuel : Nat} {v : Value} {d : DataW H} {ps : List MemPlace} (h : Tr enc P w fuel I.ts [v] = some (d, ps)) (hB : bulkW d ≤ 1048576) :
    ∃ (oa : Option Addr) (cap : Nat) (l : List Th), v = .slice oa l.length cap ∧ ThRow w (· < w.heap.size) oa l ∧ OkT l ∧ szTs l ≤ bulkW d := by
  obtain ⟨-, -, -, ft, -, -, -, -, it, -, st, -, -, -, tts⟩ := okIds_inv hI
  obtain ⟨oa, cap, l, vs, rfl, hrow, hV, hsum, hlen⟩ := open_list (B := 1048576) tts (show P.cellsOf I.t = 4 from cells_fits ft) (by omega) h hB (fun (x : Th) cs => ThV w (· < w.heap.size) x cs ∧ OkD x.locals ∧ OkSs x.body ∧ i64 x.a) (fun t => t.nm.length + szDs t.locals + szSs t.body + 1) th0 (fun m hm cs d ps ht hb => by
    obtain ⟨n, ds, rfl, rfl, hdl, hcl, hce, hall⟩ := open_fields ft ht
    match cs, hcl, ds, hdl with
    | [c0, c1, c2, c3], _, [d0, d1, d2, d3], _ =>
      obtain ⟨_, h0⟩ := hall 0 _ _ _ rfl rfl rfl
      obtain ⟨_, h1⟩ := hall 1 _ _ _ rfl rfl rfl
      obtain ⟨_, h2⟩ := hall 2 _ _ _ rfl rfl rfl
      obtain ⟨_, h3⟩ := hall 3 _ _ _ rfl rfl rfl
      obtain ⟨a0, e0, x0, w0⟩ := DataW.trod_string (isStr_of st) h0
      obtain ⟨a3, e3, x3, w3⟩ := DataW.trod_int (isInt_of it) h3
      simp only [List.cons.injEq, and_true, Prod.mk.injEq] at e0 e3 x0 x3
      obtain ⟨rfl, -⟩ := x0; obtain ⟨rfl, -⟩ := x3
      subst e0 e3
      simp only [bulkW, bulkWs] at hb
      obtain ⟨ol, cl, ll, rfl, q1, q2, q3⟩ := open_ds hI h1 (by omega)
      obtain ⟨ob, cb, lb, rfl, r1, r2, r3⟩ := open_sms hI h2 (by omega)
      exact ⟨⟨a0.data.toList, ll, lb, a3⟩, ⟨⟨ol, cl, ob, cb, by rw [str_of a0], q1, r1⟩, q2, r2, bounds64 w3⟩, by simp only [bulkW, bulkWs]; omega⟩)
  exact ⟨oa, cap, l, rfl, ⟨vs, hrow, fun j x hx => (hV j x hx).1⟩, ⟨by omega, fun j x hx => (hV j x hx).2⟩, by rw [szTs_sum]; exact hsum⟩
/-- an argument that is a program -/
theorem open_pg (hI : okIds P I = true) {r : Reach} {b0 : Nat} {v : Value} {d : DataW H} {ps : List MemPlace} (hval : Value.okWide P w r b0 I.pg v) (h : DataW.Trod enc P w 0 (fun _ => true) true I.pg v d ps) (hB : bulkW d ≤ 1048576) :
    ∃ (p : Pg) (os ol ot : Option Addr) (cs cl ct : Nat), v = .agg [.slice os p.shared.length cs, .slice ol p.locks.length cl, .slice ot p.threads.length ct].toArray ∧ DcRow w (· < w.heap.size) os p.shared ∧ DcRow w (· < w.heap.size) ol p.locks ∧ ThRow w (· < w.heap.size) ot p.threads ∧ OkP p ∧ szP p ≤ bulkW d := by
  obtain ⟨-, -, -, -, fp, -, -, -, -, -, -, -, -, -, -⟩ := okIds_inv hI
  obtain ⟨fuel, h⟩ := h
  obtain ⟨n, ds, rfl, rfl, hdl, hcl, hce, hall⟩ := open_fields fp h
  have hagg : ∃ cs, v = .agg cs := by
    unfold fitsB at fp
    split at fp
    · rename_i fs ht
      simp only [Value.okWide, ht] at hval
      obtain ⟨cs, rfl, -⟩ := hval
      exact ⟨cs, rfl⟩
    · cases fp
  obtain ⟨⟨cs⟩, rfl⟩ := hagg
  simp only [Value.cells] at hcl hall
  match cs, hcl, ds, hdl with
  | [c0, c1, c2], _, [d0, d1, d2], _ =>
    obtain ⟨_, h0⟩ := hall 0 _ _ _ rfl rfl rfl
    obtain ⟨_, h1⟩ := hall 1 _ _ _ rfl rfl rfl
    obtain ⟨_, h2⟩ := hall 2 _ _ _ rfl rfl rfl
    simp only [bulkW, bulkWs] at hB
    obtain ⟨os, cs, ls, rfl, q1, q2, q3⟩ := open_ds hI h0 (by omega)
    obtain ⟨ol, cl, ll, rfl, r1, r2, r3⟩ := open_ds hI h1 (by omega)
    obtain ⟨ot, ct, lt, rfl, s1, s2, s3⟩ := open_ts hI h2 (by omega)
    exact ⟨⟨ls, ll, lt⟩, os, ol, ot, cs, cl, ct, rfl, q1, r1, s1, ⟨q2, r2, s2⟩, by simp only [szP, bulkW, bulkWs]; omega⟩
end
end Sx


/- How many statements and expressions a tree has, and how deep it lies. -/
namespace Sx
set_option linter.unusedVariables false
def sm {α : Type} (f : α → Nat) : List α → Nat
  | [] => 0
  | x :: r => f x + sm f r
def mx {α : Type} (f : α → Nat) : List α → Nat
  | [] => 1
  | x :: r => max (f x) (mx f r)
theorem sumT {α : Type} {f : α → Nat} : ∀ {l : List α} {j : Nat} {x : α}, l[j]? = some x → sm f (l.take (j + 1)) = sm f (l.take j) + f x
  | [], j, x, h => by simp at h
  | y :: r, 0, x, h => by simp at h; subst h; simp [sm]
  | y :: r, j + 1, x, h => by
    have := sumT (f := f) (l := r) (j := j) (x := x) (by simpa using h)
    simp only [List.take_succ_cons, sm] at this ⊢
    omega
theorem mxT {α : Type} {f : α → Nat} : ∀ {l : List α} {j : Nat} {x : α}, l[j]? = some x → mx f (l.take (j + 1)) = max (mx f (l.take j)) (f x)
  | [], j, x, h => by simp at h
  | y :: r, 0, x, h => by simp at h; subst h; simp [mx]; omega
  | y :: r, j + 1, x, h => by
    have := mxT (f := f) (l := r) (j := j) (x := x) (by simpa using h)
    simp only [List.take_succ_cons, mx] at this ⊢
    omega
theorem smT_le {α : Type} (f : α → Nat) : ∀ (l : List α) (j : Nat), sm f (l.take j) ≤ sm f l
  | [], j => by simp
  | y :: r, 0 => by simp [sm]
  | y :: r, j + 1 => by have := smT_le f r j; simp only [List.take_succ_cons, sm]; omega
theorem mx_le {α : Type} (f : α → Nat) : ∀ (l : List α) (j : Nat), mx f (l.take j) ≤ mx f l
  | [], j => by simp
  | y :: r, 0 => by have := mx_le f r 0; simp only [List.take_zero, mx] at this ⊢; omega
  | y :: r, j + 1 => by have := mx_le f r j; simp only [List.take_succ_cons, mx]; omega
theorem sum_mem {α : Type} (f : α → Nat) : ∀ {l : List α} {j : Nat} {x : α}, l[j]? = some x → f x ≤ sm f l
  | [], j, x, h => by simp at h
  | y :: r, 0, x, h => by simp at h; subst h; simp only [sm]; omega
  | y :: r, j + 1, x, h => by have := sum_mem f (l := r) (j := j) (x := x) (by simpa using h); simp only [sm]; omega
mutual
def nE : Ex → Nat
  | .mk _ _ _ _ kids _ => 1 + nEs kids
termination_by structural e => e
def nEs : List Ex → Nat
  | [] => 0
  | e :: r => nE e + nEs r
termination_by structural l => l
end
mutual
def stS : Sm → Nat
  | .mk _ _ _ _ body els _ => 1 + stSs body + stSs els
termination_by structural e => e
def stSs : List Sm → Nat
  | [] => 0
  | e :: r => stS e + stSs r
termination_by structural l => l
end
mutual
def exS : Sm → Nat
  | .mk _ _ _ e body els _ => nEs e + exSs body + exSs els
termination_by structural e => e
def exSs : List Sm → Nat
  | [] => 0
  | e :: r => exS e + exSs r
termination_by structural l => l
end
mutual
def dpS : Sm → Nat
  | .mk k _ _ _ body els _ => if k = 3 ∨ k = 4 ∨ k = 5 then max (1 + dpL body) (if 0 < els.length then 1 + dpL els else 0) else 0
termination_by structural e => e
def dpL : List Sm → Nat
  | [] => 1
  | e :: r => max (dpS e) (dpL r)
termination_by structural l => l
end
theorem nEs_eq : ∀ l : List Ex, nEs l = sm nE l
  | [] => rfl
  | e :: r => by simp only [nEs, sm, nEs_eq r]
theorem stSs_eq : ∀ l : List Sm, stSs l = sm stS l
  | [] => rfl
  | e :: r => by simp only [stSs, sm, stSs_eq r]
theorem exSs_eq : ∀ l : List Sm, exSs l = sm exS l
  | [] => rfl
  | e :: r => by simp only [exSs, sm, exSs_eq r]
theorem dpL_eq : ∀ l : List Sm, dpL l = mx dpS l
  | [] => rfl
  | e :: r => by simp only [dpL, mx, dpL_eq r]
theorem szEs_eq : ∀ l : List Ex, szEs l = sm szE l
  | [] => rfl
  | e :: r => by simp only [szEs, sm, szEs_eq r]
theorem szSs_eq : ∀ l : List Sm, szSs l = sm szS l
  | [] => rfl
  | e :: r => by simp only [szSs, sm, szSs_eq r]
theorem nE_kids (e : Ex) : nE e = 1 + nEs e.kids := by cases e; simp only [nE, Ex.kids]
theorem stS_kids (s : Sm) : stS s = 1 + stSs s.body + stSs s.els := by cases s; simp only [stS, Sm.body, Sm.els]
theorem exS_kids (s : Sm) : exS s = nEs s.e + exSs s.body + exSs s.els := by cases s; simp only [exS, Sm.e, Sm.body, Sm.els]
theorem dpS_kids (s : Sm) : dpS s = if s.k = 3 ∨ s.k = 4 ∨ s.k = 5 then max (1 + dpL s.body) (if 0 < s.els.length then 1 + dpL s.els else 0) else 0 := by cases s; first | rfl | (rw [dpS]; rfl) | (unfold dpS; split <;> simp_all [Sm.k, Sm.body, Sm.els])
theorem szE_kids (e : Ex) : szE e = e.nm.length + szEs e.kids + 1 := by cases e; simp only [szE, Ex.nm, Ex.kids]
theorem szS_kids (s : Sm) : szS s = s.nm.length + s.other.length + szEs s.e + szSs s.body + szSs s.els + 1 := by cases s; simp only [szS, Sm.nm, Sm.other, Sm.e, Sm.body, Sm.els]
mutual
theorem nE_le : ∀ e : Ex, nE e ≤ szE e
  | .mk k op wd nm kids a => by have := nEs_le kids; simp only [nE, szE]; omega
termination_by structural e => e
theorem nEs_le : ∀ l : List Ex, nEs l ≤ szEs l
  | [] => by simp [nEs]
  | e :: r => by have := nE_le e; have := nEs_le r; simp only [nEs, szEs]; omega
termination_by structural l => l
end
mutual
theorem stS_le : ∀ e : Sm, stS e ≤ szS e
  | .mk k nm other e body els a => by have := stSs_le body; have := stSs_le els; simp only [stS, szS]; omega
termination_by structural e => e
theorem stSs_le : ∀ l : List Sm, stSs l ≤ szSs l
  | [] => by simp [stSs]
  | e :: r => by have := stS_le e; have := stSs_le r; simp only [stSs, szSs]; omega
termination_by structural l => l
end
mutual
theorem exS_le : ∀ e : Sm, exS e ≤ szS e
  | .mk k nm other e body els a => by have := exSs_le body; have := exSs_le els; have := nEs_le e; simp only [exS, szS]; omega
termination_by structural e => e
theorem exSs_le : ∀ l : List Sm, exSs l ≤ szSs l
  | [] => by simp [exSs]
  | e :: r => by have := exS_le e; have := exSs_le r; simp only [exSs, szSs]; omega
termination_by structural l => l
end
mutual
theorem dpS_le : ∀ e : Sm, dpS e ≤ szS e + 1
  | .mk k nm other e body els a => by
    have := dpL_le body; have := dpL_le els; simp only [dpS, szS]
    split
    · split <;> omega
    · omega
termination_by structural e => e
theorem dpL_le : ∀ l : List Sm, dpL l ≤ szSs l + 1
  | [] => by simp [dpL]
  | e :: r => by have := dpS_le e; have := dpL_le r; simp only [dpL, szSs]; omega
termination_by structural l => l
end
/-- of a program -/
def stP (p : Pg) : Nat := sm (fun t : Th => stSs t.body) p.threads
def exP (p : Pg) : Nat := sm (fun t : Th => exSs t.body) p.threads
def dpP : List Th → Nat
  | [] => 0
  | t :: r => max (dpL t.body) (dpP r)
theorem dpPT : ∀ {l : List Th} {j : Nat} {x : Th}, l[j]? = some x → dpP (l.take (j + 1)) = max (dpP (l.take j)) (dpL x.body)
  | [], j, x, h => by simp at h
  | y :: r, 0, x, h => by simp at h; subst h; simp [dpP]
  | y :: r, j + 1, x, h => by
    have := dpPT (l := r) (j := j) (x := x) (by simpa using h)
    simp only [List.take_succ_cons, dpP] at this ⊢
    omega
theorem szTs_mem : ∀ {l : List Th} {j : Nat} {x : Th}, l[j]? = some x → szSs x.body ≤ szTs l
  | [], j, x, h => by simp at h
  | y :: r, 0, x, h => by simp at h; subst h; simp only [szTs]; omega
  | y :: r, j + 1, x, h => by have := szTs_mem (l := r) (j := j) (x := x) (by simpa using h); simp only [szTs]; omega
theorem stP_le : ∀ l : List Th, sm (fun t : Th => stSs t.body) l ≤ szTs l
  | [] => by simp [sm]
  | t :: r => by have := stP_le r; have := stSs_le t.body; simp only [sm, szTs]; omega
theorem exP_le : ∀ l : List Th, sm (fun t : Th => exSs t.body) l ≤ szTs l
  | [] => by simp [sm]
  | t :: r => by have := exP_le r; have := exSs_le t.body; simp only [sm, szTs]; omega
end Sx
namespace Sx
theorem nEs_split : ∀ l : List Ex, nEs l = l.length + sm (fun x : Ex => nEs x.kids) l
  | [] => rfl
  | e :: r => by have := nEs_split r; have := nE_kids e; simp only [nEs, sm, List.length_cons]; omega
theorem stSs_split : ∀ l : List Sm, stSs l = l.length + sm (fun x : Sm => stSs x.body + stSs x.els) l
  | [] => rfl
  | e :: r => by have := stSs_split r; have := stS_kids e; simp only [stSs, sm, List.length_cons]; omega
end Sx


/- How great a tree is, as Lean counts. -/
namespace Sx
abbrev szo {α : Type} [SizeOf α] (x : α) : Nat := SizeOf.sizeOf x
theorem ex_size {k op wd : Int} {nm : List UInt8} {kids : List Ex} {a : Int} : szo kids < szo (Ex.mk k op wd nm kids a) := by
  simp only [szo, Ex.mk.sizeOf_spec]; omega
theorem mem_size {α : Type} [SizeOf α] {l : List α} {j : Nat} {x : α} (h : l[j]? = some x) : szo x < szo l := List.sizeOf_lt_of_mem (List.mem_of_getElem? h)
theorem sm_size {k : Int} {nm other : List UInt8} {e : List Ex} {body els : List Sm} {a : Int} : szo body < szo (Sm.mk k nm other e body els a) ∧ szo els < szo (Sm.mk k nm other e body els a) := by
  simp only [szo, Sm.mk.sizeOf_spec]; omega
theorem szo_kids (e : Ex) : szo e.kids < szo e := by cases e; exact ex_size
end Sx

