/- A part of the proof: contracts of functions and plain laws; each theorem says its own conditions. -/
import Derived.Test.YtjoepkpdanolkaaGreatDoorTopReckonedK2
import Derived.Test.YtjoepkpdanolkaaGreatDoorTopReckonedK13
import Derived.Test.YtjoepkpdanolkaaGreatDoorTopReckonedK5
import Derived.Test.YtjoepkpdanolkaaGreatDoorTopReckonedK10
import Derived.Test.YtjoepkpdanolkaaGreatDoorTopReckonedK3
import Derived.Test.YtjoepkpdanolkaaGreatDoorTopReckonedK4
import Derived.Test.YtjoepkpdanolkaaGreatDoorTopReckonedK1
import Derived.Test.YtjoepkpdanolkaaGreatDoorTopReckonedK6
set_option linter.unusedVariables false
set_option linter.unusedSimpArgs false
namespace Go.Proofs.YtjoepkpdanolkaaGreatDoor.Pq
open Go.RowKit Sx LexS ParS _root_.Go.Proofs.Tryz

theorem parse_idle (args : List Value) (h3 : args.length = 3) (w : World) : DefIdle Tryz.prog 46 args.toArray w (fun w' => w' = w) := by
 refine callsD_of_wpS Tryz.func46 rfl fun c₀ cs hu => ?_
 obtain ⟨x, y, z, rfl⟩ : ∃ x y z, args = [x, y, z] := by
  match args, h3 with
  | [x, y, z], _ => exact ⟨x, y, z, rfl⟩
 apply wpS_seq;apply wpS_region;simp [wpOpsS, go_sem, recoverD, hu, Tryz.ntmps46, Exit.thenS];apply wpS_seq;apply wpS_region;simp [wpOpsS, go_sem, Exit.thenS];refine wpS_cond (t := false) (by simp [Act.eval, Array.replicate]) ?_;simp only [Bool.false_eq_true, if_false];refine wpS_of_wp (wp_skip ?_);cases c₀
 simp_all [bodyPostS, results, Tryz.results46]
theorem expr_idle (args : List Value) (h3 : args.length = 3) (w : World) : DefIdle Tryz.prog 18 args.toArray w (fun w' => w' = w) := by
 refine callsD_of_wpS Tryz.func18 rfl fun c₀ cs hu => ?_
 obtain ⟨x, y, z, rfl⟩ : ∃ x y z, args = [x, y, z] := by
  match args, h3 with
  | [x, y, z], _ => exact ⟨x, y, z, rfl⟩
 apply wpS_seq;apply wpS_region;simp [wpOpsS, go_sem, recoverD, hu, Tryz.ntmps18, Exit.thenS];apply wpS_seq;apply wpS_region;simp [wpOpsS, go_sem, Exit.thenS];refine wpS_cond (t := false) (by simp [Act.eval, Array.replicate]) ?_;simp only [Bool.false_eq_true, if_false];refine wpS_of_wp (wp_skip ?_);cases c₀
 simp_all [bodyPostS, results, Tryz.results18]
theorem _root_.Sx.St.push2 {w w' w0 : World} {M : List Nat} {hs : List Res} (st : St w0 M hs w) (c : Chg [] w w') {r q : Res} (hr : r.holds w0.heap.size w') (hq : q.holds w0.heap.size w') (hat : ∀ k ∈ r.at?, w.heap.size ≤ k) (hat' : ∀ k ∈ q.at?, w.heap.size ≤ k) (hd : ∀ k ∈ r.at?, k ∉ q.at?) : St w0 M (r :: q :: hs) w' := by
 have st1 := st.pushR c hq hat';refine ⟨st1.chg, List.pairwise_cons.2 ⟨fun x hx k hk hk' => ?_, st1.nodup⟩, fun x hx => ?_⟩;rcases List.mem_cons.1 hx with rfl | h;exact hd k hk hk';exact absurd (st.lt h hk') (by have := hat k hk; omega);rcases List.mem_cons.1 hx with rfl | h;exact hr;exact st1.here x h
theorem _root_.Sx.St.pnew {s : List UInt8} {c : PCtx} {w w' w0 : World} {M : List Nat} {hs : List Res} (st : St w0 M hs w) (ch : Chg [] w w') (h : PNew s w.heap.size c w') :
    St w0 M (.blk c.pb (.cells (pcell c c.ts).toArray c.T (0, 0)) :: .own (.slice c.oa c.ts.length c.cap) 65 4 c.ts.length (toksL c.ts) :: hs) w' :=
 st.push2 ch h.at_ (ownsRow_base h.own st.chg.size) (by simpa [Res.at?] using h.le) (fun k hk => (World.ownsRow.lt h.own k (by simpa [Res.at?] using hk)).1)
  (fun k hk => by
    simp only [Res.at?, List.mem_singleton] at hk
    subst hk
    intro hk'
    simp only [Res.at?, obk_own] at hk'
    exact absurd (h.lt _ hk') (Nat.lt_irrefl _))

/-- what 'Parse' leaves behind -/
def ParsePost (s : List UInt8) (w : World) (v : Value) (w' : World) : Prop := Chg [] w w' ∧ ∃ vp, HP w (parseRes s).1 vp w' ∧ v = .tuple #[vp, .int .i64 ((parseRes s).2.1 : Int), .agg #[.int .i64 ((parseRes s).2.2.1 : Int), .int .i64 ((parseRes s).2.2.2 : Int)]]
/-- what 'Expr' leaves behind -/
def ExprPost (s : List UInt8) (w : World) (v : Value) (w' : World) : Prop := Chg [] w w' ∧ ∃ vx, HE w (exprRes s).1 vx w' ∧ v = .tuple #[vx, .int .i64 ((exprRes s).2.1 : Int), .agg #[.int .i64 ((exprRes s).2.2.1 : Int), .int .i64 ((exprRes s).2.2.2 : Int)]]
theorem hp_none (w0 : World) (w' : World) : HP w0 pg0 (.agg pg00.toArray) w' :=
 ⟨none, none, none, 0, 0, 0, [], rfl, ⟨none, 0, none, 0, none, 0, [], [], [], rfl, ⟨World.ownsRow_nil _ _ _ _, rfl⟩, ⟨World.ownsRow_nil _ _ _ _, rfl⟩, ⟨[], [], World.ownsRow_nil _ _ _ _, rfl, rfl, rfl⟩, rfl⟩, Nw.nil⟩
theorem he_none (w0 : World) (w' : World) : HE w0 ex0 (.agg ex00.toArray) w' := ⟨none, 0, [], rfl, exr_nil, Nw.nil⟩
theorem _root_.Sx.holds_pg {tE tS tD tT base : Nat} {w : World} {q : Pg} {l : List Value} {S : List Nat} (h : PgS tE tS tD tT w q l S) : (Res.tree S fun w => PgS tE tS tD tT w q l S).holds base w := holds_of h h.lt (fun a b h hk => h.kept hk)

/-- a refusal is caught -/
theorem parse_pan {s : List UInt8} {w0 w : World} {b2 b3 b4 : Nat} {f : Flt} {kn : Kn} (h2 : w.heap[b2]? = some (.cells pg00.toArray 81 (0, 0))) (h3 : w.heap[b3]? = some (.cells [.int .i64 0].toArray 28 (0, 0))) (h4 : w.heap[b4]? = some (.cells [.int .i64 0, .int .i64 0].toArray 30 (0, 0)))
    (n1 : b2 ≠ b3) (n2 : b2 ≠ b4) (n3 : b3 ≠ b4) (l2 : w0.heap.size ≤ b2) (l3 : w0.heap.size ≤ b3) (l4 : w0.heap.size ≤ b4) (ch : Chg [] w0 w) (hpr : parseRes s = (pg0, 30, f.1, f.2))
  (k2 : find kn 2 = some (.pointer (some ⟨b2, 0, none⟩))) (k3 : find kn 3 = some (.pointer (some ⟨b3, 0, none⟩))) (k4 : find kn 4 = some (.pointer (some ⟨b4, 0, none⟩))) :
  PanK (21, [⟨.fn (.func 46) (List.toArray [.pointer (some ⟨b2, 0, none⟩), .pointer (some ⟨b3, 0, none⟩), .pointer (some ⟨b4, 0, none⟩)]), #[]⟩]) kn (bodyPostD Tryz.prog Tryz.f24 fun e w' => ∃ v, e = .returned v ∧ ParsePost s w0 v w') (.iface 70 (.agg #[.int .i64 (f.1 : Int), .int .i64 (f.2 : Int)])) w := by
 refine pan_leave Tryz.call46 (parse_catch b2 b3 b4 f.1 f.2 _ w h2 h3 h4 n1 n2 n3) (fun w2 hc => ?_);obtain ⟨g2, g3, g4, c2⟩ := hc;have st2 := St.of3 [] g2 g3 g4 n1 n2 n3;refine ⟨_, results3 st2 Tryz.results24 (.cell 0 k2 rfl Tryz.isAgg81 Tryz.sizeOf81) (.cell1 1 k3 rfl Tryz.isAgg28 rfl) (.cell 2 k4 rfl Tryz.isAgg30 Tryz.sizeOf30), _, rfl, ch.trans' c2 (by simp [l2, l3, l4]), ?_⟩;rw [hpr];exact ⟨_, hp_none _ _, rfl⟩
set_option maxHeartbeats 1000000 in
theorem parse_any (s : List UInt8) (w : World) (hsg : SigAt 0 w) : Ret Tryz.prog 24 [str s] w (ParsePost s w) := by
 refine retd_of [_] Tryz.func24 rfl Tryz.ntmps24 rfl ?_;have st := St.init w [];obtain ⟨w0, rfl⟩ : ∃ w0, w0 = w := ⟨_, rfl⟩
 have h0 : 0 < w0.heap.size := World.block_lt_of_cell? w0 _ (hsg 0 (by omega)).1;refine a2 ?_;refine vc_e (e_al (l := [_, _, _]) st rfl rfl Tryz.zeroValue81 rfl ?_);intro b2 w hb2 st;refine vc_e (e_al (l := [_]) st rfl rfl Tryz.zeroValue28 rfl ?_);intro b3 w hb3 st;refine vc_e (e_al (l := [_, _]) st rfl rfl Tryz.zeroValue30 rfl ?_);intro b4 w hb4 st;refine a5 ?_;have n43 := st.bne 0 1 (by decide) rfl rfl;have n42 := st.bne 0 2 (by decide) rfl rfl;have n32 := st.bne 1 2 (by decide) rfl rfl;have n34 := Ne.symm n43;have n24 := Ne.symm n42;have n23 := Ne.symm n32;have hw1 := st.chg.size;refine vc_e (e_call [_] rfl rfl Tryz.call17 rfl (begun_any s _ (hsg.kept st.chg (by simp))) ?_);rintro _ w ⟨cw, hb⟩;rcases hb with ⟨hl, rfl⟩ | ⟨hl, ru, pl, hfr, rfl⟩ | ⟨hl, hfr, c, hn, rfl⟩
 replace st := st.call0 cw;have hpr : parseRes s = (pg0, 4, 0, 0) := by simp [parseRes, hl]
 refine a5 ?_;refine vc_e (est st 1 Tryz.sizeOf28 ?_);intro w st;refine vc_e (ests st 0 [_, _] Tryz.sizeOf30 ?_);intro w st;refine a5 ?_;refine yl st 1 Tryz.isAgg28 ?_;refine a3 ?_;refine vif ?_ ?_;intro hc13;refine a1 ?_;refine vc_noPan ?_;refine vdr0 Tryz.mixed [Yt 0, Yt 1, Yt 2, Nt 3, Nt 4, Nt 5] st ?_;clear st; intro w st hS;refine vp_take rfl rfl rfl hS (fun w st => y_lda (vs := [_, _, _]) st 2 rfl Tryz.isAgg81 Tryz.sizeOf81 rfl rfl) ?_;refine pld hS 1 Tryz.isAgg28 ?_;refine vp_take rfl rfl rfl hS (fun w st => y_lda (vs := [_, _]) st 0 rfl Tryz.isAgg30 Tryz.sizeOf30 rfl rfl) ?_;refine vp_do rfl (ests st 2 [_, _, _] Tryz.sizeOf81 ?_);intro w st;refine vp_next (by exact st) ?_; intro hS;refine vp_do rfl (est st 1 Tryz.sizeOf28 ?_);intro w st;refine vp_next (by exact st) ?_; intro hS;refine vp_do rfl (ests st 0 [_, _] Tryz.sizeOf30 ?_);intro w st;refine vp_next (by exact st) ?_; intro hS;refine vp_end ?_;refine vq_noPan ?_;refine a3 ?_;refine vqd_post (.inl rfl) (results3 st Tryz.results24 (.cell 2 rfl rfl Tryz.isAgg81 Tryz.sizeOf81) (.cell1 1 rfl rfl Tryz.isAgg28 rfl) (.cell 0 rfl rfl Tryz.isAgg30 Tryz.sizeOf30)) ?_;refine ⟨_, rfl, st.chg, ?_⟩;rw [hpr];exact ⟨_, hp_none _ _, rfl⟩;intro hc13;exact absurd hc13 (by decide);replace st := st.call0 cw;have hpr : parseRes s = (pg0, 30, pl, 1) := by simp [parseRes, Nat.not_lt.2 hl, hfr]
 refine a5 ?_;refine vc_e (est st 1 Tryz.sizeOf28 ?_);intro w st;refine vc_e (ests st 0 [_, _] Tryz.sizeOf30 ?_);intro w st;refine a5 ?_;refine yl st 1 Tryz.isAgg28 ?_;refine a3 ?_;refine vif ?_ ?_;intro hc13;refine a1 ?_;refine vc_noPan ?_;refine vdr0 Tryz.mixed [Yt 0, Yt 1, Yt 2, Nt 3, Nt 4, Nt 5] st ?_;clear st; intro w st hS;refine vp_take rfl rfl rfl hS (fun w st => y_lda (vs := [_, _, _]) st 2 rfl Tryz.isAgg81 Tryz.sizeOf81 rfl rfl) ?_;refine pld hS 1 Tryz.isAgg28 ?_;refine vp_take rfl rfl rfl hS (fun w st => y_lda (vs := [_, _]) st 0 rfl Tryz.isAgg30 Tryz.sizeOf30 rfl rfl) ?_;refine vp_do rfl (ests st 2 [_, _, _] Tryz.sizeOf81 ?_);intro w st;refine vp_next (by exact st) ?_; intro hS;refine vp_do rfl (est st 1 Tryz.sizeOf28 ?_);intro w st;refine vp_next (by exact st) ?_; intro hS;refine vp_do rfl (ests st 0 [_, _] Tryz.sizeOf30 ?_);intro w st;refine vp_next (by exact st) ?_; intro hS;refine vp_end ?_;refine vq_noPan ?_;refine a3 ?_;refine vqd_post (.inl rfl) (results3 st Tryz.results24 (.cell 2 rfl rfl Tryz.isAgg81 Tryz.sizeOf81) (.cell1 1 rfl rfl Tryz.isAgg28 rfl) (.cell 0 rfl rfl Tryz.isAgg30 Tryz.sizeOf30)) ?_;refine ⟨_, rfl, st.chg, ?_⟩;rw [hpr];exact ⟨_, hp_none _ _, rfl⟩;intro hc13;exact absurd hc13 (by decide);replace st := st.pnew cw hn
 have hpr : parseRes s = match progP c.e (c.ts.length + 1) c.ts with | .error f => (pg0, 30, f.1, f.2) | .ok p => (p, 0, 0, 0) := by
  unfold parseRes; rw [if_neg (by omega), hfr, hn.e, hn.ts]
  try rfl
 refine a5 ?_;refine vc_e (est st 3 Tryz.sizeOf28 ?_);intro w st;refine vc_e (ests st 2 [_, _] Tryz.sizeOf30 ?_);intro w st;refine a5 ?_;refine yl st 3 Tryz.isAgg28 ?_;refine a3 ?_;refine vif ?_ ?_;intro hc13;exact absurd hc13 (by decide);intro hc13;refine a4 ?_;refine vy (y_mf [] [_, _, _] rfl rfl) ?_;refine vc_e (e_deferV rfl rfl rfl ?_);refine a5 ?_
 refine vc_e (e_callk [_] rfl rfl Tryz.call47 rfl (pprog_any c hn.R hn.g c.ts (List.suffix_refl _) _ (hn.ok (st.res (i := 1) rfl) (hsg.kept st.chg (by simp)) (st.res (i := 0) rfl) (Nat.lt_of_lt_of_le h0 hw1)) (st.res (i := 0) rfl) (c.ts.length + 1) (by omega)) (by
     rintro _ w' ⟨f, hf, rfl, ch⟩
     obtain ⟨o', ho'⟩ : ∃ o', w'.heap[c.pb]? = some o' := ⟨_, Array.getElem?_eq_getElem (Nat.lt_of_lt_of_le (Array.getElem?_eq_some_iff.1 (st.res (i := 0) rfl)).1 ch.size)⟩
     have st' := St.prs (b := c.pb) st 0 rfl ch (.inr (Nat.le_trans hw1 hn.le)) ho'
     dsimp only [setNth] at st'
     rw [show refV c f = .iface 70 (.agg #[.int .i64 (f.1 : Int), .int .i64 (f.2 : Int)]) by rw [refV, hn.R]]
     exact parse_pan (st'.res (i := 4) rfl) (st'.res (i := 3) rfl) (st'.res (i := 2) rfl) n23 n24 n34 hb2 hb3 hb4 st'.chg (by rw [hpr, hf]) rfl rfl rfl) ?_)
 rintro _ w ⟨q, hq, cw, os, ol, ot, cs, cl, ct, Sq, rfl, hT, hN⟩;have hw2 := st.chg.size;obtain ⟨o', ho'⟩ : ∃ o', w.heap[c.pb]? = some o' := ⟨_, Array.getElem?_eq_getElem (Nat.lt_of_lt_of_le (Array.getElem?_eq_some_iff.1 (st.res (i := 0) rfl)).1 cw.size)⟩
 replace st := St.prsT (b := c.pb) st 0 rfl cw (.inr (Nat.le_trans hw1 hn.le)) ho' (holds_pg hT) hN.2;refine vy (ybd (.agg #[_, _]) []) ?_;refine vc_e (ests st 5 [_, _, _] Tryz.sizeOf81 ?_);intro w st;refine vc_e (est st 4 Tryz.sizeOf28 ?_);intro w st;refine vc_e (ests st 3 [_, _] Tryz.sizeOf30 ?_);intro w st;refine a3 ?_;refine vqd_ret (.inl rfl) Tryz.call46 (parse_idle [.pointer (some ⟨b2, 0, none⟩), .pointer (some ⟨b3, 0, none⟩), .pointer (some ⟨b4, 0, none⟩)] rfl _) (fun w2 e2 => ?_);subst e2;refine ⟨_, results3 st Tryz.results24 (.cell 5 rfl rfl Tryz.isAgg81 Tryz.sizeOf81) (.cell1 4 rfl rfl Tryz.isAgg28 rfl) (.cell 3 rfl rfl Tryz.isAgg30 Tryz.sizeOf30), _, rfl, st.chg, ?_⟩;rw [hpr, hq];dsimp only;exact ⟨_, ⟨os, ol, ot, cs, cl, ct, Sq, rfl, (st.res (i := 0) rfl).1, hN.le hw2⟩, rfl⟩
/-- a refusal is caught -/
theorem expr_pan {s : List UInt8} {w0 w : World} {b2 b3 b4 : Nat} {f : Flt} {kn : Kn} (h2 : w.heap[b2]? = some (.cells ex00.toArray 27 (0, 0))) (h3 : w.heap[b3]? = some (.cells [.int .i64 0].toArray 28 (0, 0))) (h4 : w.heap[b4]? = some (.cells [.int .i64 0, .int .i64 0].toArray 30 (0, 0)))
    (n1 : b2 ≠ b3) (n2 : b2 ≠ b4) (n3 : b3 ≠ b4) (l2 : w0.heap.size ≤ b2) (l3 : w0.heap.size ≤ b3) (l4 : w0.heap.size ≤ b4) (ch : Chg [] w0 w) (hpr : exprRes s = (ex0, 30, f.1, f.2))
  (k2 : find kn 2 = some (.pointer (some ⟨b2, 0, none⟩))) (k3 : find kn 3 = some (.pointer (some ⟨b3, 0, none⟩))) (k4 : find kn 4 = some (.pointer (some ⟨b4, 0, none⟩))) :
  PanK (35, [⟨.fn (.func 18) (List.toArray [.pointer (some ⟨b2, 0, none⟩), .pointer (some ⟨b3, 0, none⟩), .pointer (some ⟨b4, 0, none⟩)]), #[]⟩]) kn (bodyPostD Tryz.prog Tryz.f5 fun e w' => ∃ v, e = .returned v ∧ ExprPost s w0 v w') (.iface 70 (.agg #[.int .i64 (f.1 : Int), .int .i64 (f.2 : Int)])) w := by
 refine pan_leave Tryz.call18 (expr_catch b2 b3 b4 f.1 f.2 _ w h2 h3 h4 n1 n2 n3) (fun w2 hc => ?_);obtain ⟨g2, g3, g4, c2⟩ := hc;have st2 := St.of3 [] g2 g3 g4 n1 n2 n3;refine ⟨_, results3 st2 Tryz.results5 (.cell 0 k2 rfl Tryz.isAgg27 Tryz.sizeOf27) (.cell1 1 k3 rfl Tryz.isAgg28 rfl) (.cell 2 k4 rfl Tryz.isAgg30 Tryz.sizeOf30), _, rfl, ch.trans' c2 (by simp [l2, l3, l4]), ?_⟩;rw [hpr];exact ⟨_, he_none _ _, rfl⟩
set_option maxHeartbeats 1000000 in
theorem expr_any (s : List UInt8) (w : World) (hsg : SigAt 0 w) : Ret Tryz.prog 5 [str s] w (ExprPost s w) := by
 refine retd_of [_] Tryz.func5 rfl Tryz.ntmps5 rfl ?_;have st := St.init w [];obtain ⟨w0, rfl⟩ : ∃ w0, w0 = w := ⟨_, rfl⟩
 have h0 : 0 < w0.heap.size := World.block_lt_of_cell? w0 _ (hsg 0 (by omega)).1;refine a2 ?_;refine vc_e (e_al (l := [_, _, _, _, _, _]) st rfl rfl Tryz.zeroValue27 rfl ?_);intro b2 w hb2 st;refine vc_e (e_al (l := [_]) st rfl rfl Tryz.zeroValue28 rfl ?_);intro b3 w hb3 st;refine vc_e (e_al (l := [_, _]) st rfl rfl Tryz.zeroValue30 rfl ?_);intro b4 w hb4 st;refine a5 ?_;have n43 := st.bne 0 1 (by decide) rfl rfl;have n42 := st.bne 0 2 (by decide) rfl rfl;have n32 := st.bne 1 2 (by decide) rfl rfl;have n34 := Ne.symm n43;have n24 := Ne.symm n42;have n23 := Ne.symm n32;have hw1 := st.chg.size;refine vc_e (e_call [_] rfl rfl Tryz.call17 rfl (begun_any s _ (hsg.kept st.chg (by simp))) ?_);rintro _ w ⟨cw, hb⟩;rcases hb with ⟨hl, rfl⟩ | ⟨hl, ru, pl, hfr, rfl⟩ | ⟨hl, hfr, c, hn, rfl⟩
 replace st := st.call0 cw;have hpr : exprRes s = (ex0, 4, 0, 0) := by simp [exprRes, hl]
 refine a5 ?_;refine vc_e (est st 1 Tryz.sizeOf28 ?_);intro w st; dsimp only [setNth, wr] at st;refine vc_e (ests st 0 [_, _] Tryz.sizeOf30 ?_);intro w st; dsimp only [setNth, wr] at st;refine a5 ?_;refine yl st 1 Tryz.isAgg28 ?_;refine a3 ?_;refine vif ?_ ?_;intro hc14;(try simp only [dn] at hc14);refine a1 ?_;refine vc_noPan ?_;refine vdr0 Tryz.mixed [Yt 0, Yt 1, Yt 2, Nt 3, Nt 4, Nt 5] st ?_;clear st; intro w st hS;refine vp_take rfl rfl rfl hS (fun w st => y_lda (vs := [_, _, _, _, _, _]) st 2 rfl Tryz.isAgg27 Tryz.sizeOf27 rfl rfl) ?_;refine pld hS 1 Tryz.isAgg28 ?_;refine vp_take rfl rfl rfl hS (fun w st => y_lda (vs := [_, _]) st 0 rfl Tryz.isAgg30 Tryz.sizeOf30 rfl rfl) ?_;refine vp_do rfl (ests st 2 [_, _, _, _, _, _] Tryz.sizeOf27 ?_);intro w st; dsimp only [setNth, wr] at st;refine vp_next (by exact st) ?_; intro hS;refine vp_do rfl (est st 1 Tryz.sizeOf28 ?_);intro w st; dsimp only [setNth, wr] at st;refine vp_next (by exact st) ?_; intro hS;refine vp_do rfl (ests st 0 [_, _] Tryz.sizeOf30 ?_);intro w st; dsimp only [setNth, wr] at st;refine vp_next (by exact st) ?_; intro hS;refine vp_end ?_;refine vq_noPan ?_;refine a3 ?_;refine vqd_post (.inl rfl) (results3 st Tryz.results5 (.cell 2 rfl rfl Tryz.isAgg27 Tryz.sizeOf27) (.cell1 1 rfl rfl Tryz.isAgg28 rfl) (.cell 0 rfl rfl Tryz.isAgg30 Tryz.sizeOf30)) ?_;refine ⟨_, rfl, st.chg, ?_⟩;rw [hpr];exact ⟨_, he_none _ _, rfl⟩;intro hc14;exact absurd hc14 (by decide);replace st := st.call0 cw;have hpr : exprRes s = (ex0, 30, pl, 1) := by simp [exprRes, Nat.not_lt.2 hl, hfr]
 refine a5 ?_;refine vc_e (est st 1 Tryz.sizeOf28 ?_);intro w st; dsimp only [setNth, wr] at st;refine vc_e (ests st 0 [_, _] Tryz.sizeOf30 ?_);intro w st; dsimp only [setNth, wr] at st;refine a5 ?_;refine yl st 1 Tryz.isAgg28 ?_;refine a3 ?_;refine vif ?_ ?_;intro hc14;(try simp only [dn] at hc14);refine a1 ?_;refine vc_noPan ?_;refine vdr0 Tryz.mixed [Yt 0, Yt 1, Yt 2, Nt 3, Nt 4, Nt 5] st ?_;clear st; intro w st hS;refine vp_take rfl rfl rfl hS (fun w st => y_lda (vs := [_, _, _, _, _, _]) st 2 rfl Tryz.isAgg27 Tryz.sizeOf27 rfl rfl) ?_;refine pld hS 1 Tryz.isAgg28 ?_;refine vp_take rfl rfl rfl hS (fun w st => y_lda (vs := [_, _]) st 0 rfl Tryz.isAgg30 Tryz.sizeOf30 rfl rfl) ?_;refine vp_do rfl (ests st 2 [_, _, _, _, _, _] Tryz.sizeOf27 ?_);intro w st; dsimp only [setNth, wr] at st;refine vp_next (by exact st) ?_; intro hS;refine vp_do rfl (est st 1 Tryz.sizeOf28 ?_);intro w st; dsimp only [setNth, wr] at st;refine vp_next (by exact st) ?_; intro hS;refine vp_do rfl (ests st 0 [_, _] Tryz.sizeOf30 ?_);intro w st; dsimp only [setNth, wr] at st;refine vp_next (by exact st) ?_; intro hS;refine vp_end ?_;refine vq_noPan ?_;refine a3 ?_;refine vqd_post (.inl rfl) (results3 st Tryz.results5 (.cell 2 rfl rfl Tryz.isAgg27 Tryz.sizeOf27) (.cell1 1 rfl rfl Tryz.isAgg28 rfl) (.cell 0 rfl rfl Tryz.isAgg30 Tryz.sizeOf30)) ?_;refine ⟨_, rfl, st.chg, ?_⟩;rw [hpr];exact ⟨_, he_none _ _, rfl⟩;intro hc14;exact absurd hc14 (by decide);replace st := st.pnew cw hn
 have hpr : exprRes s = match exprP c.e 64 c.ts with | .error f => (ex0, 30, f.1, f.2) | .ok (x, r) => if r.length = 0 then (x, 0, 0, 0) else (ex0, 30, atT c.e r, 2) := by
  unfold exprRes; rw [if_neg (by omega), hfr, hn.e, hn.ts]
  try rfl
 refine a5 ?_;refine vc_e (est st 3 Tryz.sizeOf28 ?_);intro w st; dsimp only [setNth, wr] at st;refine vc_e (ests st 2 [_, _] Tryz.sizeOf30 ?_);intro w st; dsimp only [setNth, wr] at st;refine a5 ?_;refine yl st 3 Tryz.isAgg28 ?_;refine a3 ?_;refine vif ?_ ?_;intro hc14;exact absurd hc14 (by decide);intro hc14;(try simp only [dn] at hc14);refine a4 ?_;refine vy (y_mf [] [_, _, _] rfl rfl) ?_;refine vc_e (e_deferV rfl rfl rfl ?_);refine a5 ?_
 refine vc_e (e_callk [_, _] rfl rfl Tryz.call19 rfl (pexpr_any c hn.R hn.g c.ts (List.suffix_refl _) _ (hn.ok (st.res (i := 1) rfl) (hsg.kept st.chg (by simp)) (st.res (i := 0) rfl) (Nat.lt_of_lt_of_le h0 hw1)) (st.res (i := 0) rfl)) (by
     rintro _ w' ⟨f, hf, rfl, ch⟩
     obtain ⟨o', ho'⟩ : ∃ o', w'.heap[c.pb]? = some o' := ⟨_, Array.getElem?_eq_getElem (Nat.lt_of_lt_of_le (Array.getElem?_eq_some_iff.1 (st.res (i := 0) rfl)).1 ch.size)⟩
     have st' := St.prs (b := c.pb) st 0 rfl ch (.inr (Nat.le_trans hw1 hn.le)) ho'
     dsimp only [setNth] at st'
     rw [show refV c f = .iface 70 (.agg #[.int .i64 (f.1 : Int), .int .i64 (f.2 : Int)]) by rw [refV, hn.R]]
     exact expr_pan (st'.res (i := 4) rfl) (st'.res (i := 3) rfl) (st'.res (i := 2) rfl) n23 n24 n34 hb2 hb3 hb4 st'.chg (by rw [hpr, hf]) rfl rfl rfl) ?_)
 rintro _ w ⟨x, r1, hx, hsf, hln, hP1, cw, oq, cq, Sq, rfl, hT, hN⟩;have hw2 := st.chg.size;replace st := St.prsT (b := c.pb) st 0 rfl cw (.inr (Nat.le_trans hw1 hn.le)) hP1 (holds_ex hT) hN.2;dsimp only [setNth] at st;rw [hx] at hpr;dsimp only at hpr;have hsl := suf_len hsf;refine vc_e (e_al (l := [_, _, _, _, _, _]) st rfl rfl Tryz.zeroValue27 rfl ?_);intro b6 w hb6 st;refine vc_e (ests st 0 [_, _, _, _, _, _] Tryz.sizeOf27 ?_);intro w st; dsimp only [setNth, wr] at st;refine a4 ?_;refine vc_noPan ?_;refine vdr0 Tryz.mixed [Yt 0, Yt 1, Yt 2, Yt 3, Yt 4, Yt 5, Yt 6, Yt 7, Yt 8, Yt 9] st ?_;clear st; intro w st hS;refine pm hS ?_;refine pnk hS ?_;refine pfz hS 1 Tryz.underlying73 Tryz.sizeOf3 ?_;refine pld hS 2 Tryz.isAgg3 ?_;refine pm hS ?_;refine pnk hS ?_;refine pf0 hS Tryz.underlying73 Tryz.sizeOf59 ?_;refine pld hS 2 Tryz.isAgg59 ?_;refine vp_take rfl rfl rfl hS (fun w st => y_lensl rfl Tryz.underlying59) ?_;refine vp_take rfl rfl rfl hS (fun w st => y_lss rfl rfl) ?_;refine vp_end ?_;refine vq_noPan ?_;refine a1 ?_;refine vif ?_ ?_;intro hc30;(try simp only [dn] at hc30);have hr0 : 0 < r1.length := by omega
 refine a2 ?_
 refine vc_e (e_callk [_, _] rfl rfl Tryz.call20 rfl (pfail_any c 2 r1 hsf _ (hn.ok (st.res (i := 3) rfl) (hsg.kept st.chg (by simp)) (st.res (i := 2) rfl) (Nat.lt_of_lt_of_le h0 hw1)) (st.res (i := 2) rfl) hn.R) (by
     rintro _ w' ⟨rfl, ch⟩
     rw [show refV c (atT c.e r1, 2) = .iface 70 (.agg #[.int .i64 (atT c.e r1 : Int), .int .i64 (2 : Nat)]) by rw [refV, hn.R]]
     have st' := st.call0 ch
     exact expr_pan (f := (atT c.e r1, 2)) (st'.res (i := 6) rfl) (st'.res (i := 5) rfl) (st'.res (i := 4) rfl) n23 n24 n34 hb2 hb3 hb4 st'.chg (by rw [hpr, if_neg (by omega)]) rfl rfl rfl) (fun _ _ h => h.elim))
 intro hc30;(try simp only [dn] at hc30);have hr0 : r1.length = 0 := by omega
 refine a4 ?_;refine yla st 0 [_, _, _, _, _, _] Tryz.isAgg27 Tryz.sizeOf27 ?_;refine vy (ybd (.agg #[_, _]) []) ?_;refine vc_e (ests st 6 [_, _, _, _, _, _] Tryz.sizeOf27 ?_);intro w st; dsimp only [setNth, wr] at st;refine vc_e (est st 5 Tryz.sizeOf28 ?_);intro w st; dsimp only [setNth, wr] at st;refine vc_e (ests st 4 [_, _] Tryz.sizeOf30 ?_);intro w st; dsimp only [setNth, wr] at st;refine a3 ?_;refine vqd_ret (.inl rfl) Tryz.call18 (expr_idle [.pointer (some ⟨b2, 0, none⟩), .pointer (some ⟨b3, 0, none⟩), .pointer (some ⟨b4, 0, none⟩)] rfl _) (fun w2 e2 => ?_);subst e2;refine ⟨_, results3 st Tryz.results5 (.cell 6 rfl rfl Tryz.isAgg27 Tryz.sizeOf27) (.cell1 5 rfl rfl Tryz.isAgg28 rfl) (.cell 4 rfl rfl Tryz.isAgg30 Tryz.sizeOf30), _, rfl, st.chg, ?_⟩;rw [hpr, if_pos hr0];exact ⟨_, ⟨oq, cq, Sq, rfl, (st.res (i := 1) rfl).1, hN.le hw2⟩, rfl⟩
end Go.Proofs.YtjoepkpdanolkaaGreatDoor.Pq


namespace Go.Proofs.YtjoepkpdanolkaaGreatDoor
open Go.RowKit Sx LexS _root_.Go.Proofs.Tryz
theorem Tryz.info5 : Tryz.prog.info? 5 = some Tryz.t5 := by kernel_rfl
section
variable {n0 : Nat}
end
end Go.Proofs.YtjoepkpdanolkaaGreatDoor


namespace Go.Proofs.YtjoepkpdanolkaaGreatDoor
open Go.RowKit Sx LexS _root_.Go.Proofs.Tryz
section
variable {S : Nat → Prop}

end
end Go.Proofs.YtjoepkpdanolkaaGreatDoor


namespace Go.Proofs.YtjoepkpdanolkaaGreatDoor
open Go.RowKit Sx LexS _root_.Go.Proofs.Tryz
section
variable {n0 : Nat}
theorem rightE_inv3 {e : Ex} {d : Nat} (h : rightE e d = true) (hk : e.k = 3) : ∃ x, e.kids = [x] ∧ ∃ d', rightE x d' = true := by
 have hd := rightE_le h
 by_cases h1 : e.kids.length = 1
 obtain ⟨x, hx⟩ := get0 h1 (by omega);refine ⟨x, one_form h1 hx, ?_⟩;rw [rightE_3 hk hd (one_form h1 hx)] at h;simp only [Bool.and_eq_true] at h;exact ⟨_, h.2⟩;rw [rightE_3n hk (.inl h1)] at h; cases h
theorem rightE_inv4 {e : Ex} {d : Nat} (h : rightE e d = true) (hk : e.k = 4) : ∃ x y, e.kids = [x, y] ∧ (∃ d', rightE x d' = true) ∧ ∃ d', rightE y d' = true := by
 have hd := rightE_le h
 by_cases h1 : e.kids.length = 2
 obtain ⟨x, hx⟩ := get0 h1 (by omega);obtain ⟨y, hy⟩ := get1 h1;refine ⟨x, y, two_form h1 hx hy, ?_⟩;rw [rightE_4 hk hd (two_form h1 hx hy)] at h;simp only [Bool.and_eq_true] at h;exact ⟨⟨_, h.2.1⟩, ⟨_, h.2.2⟩⟩;rw [rightE_4n hk (.inl h1)] at h; cases h
theorem rightE_kind {e : Ex} {d : Nat} (h : rightE e d = true) : e.k = 1 ∨ e.k = 2 ∨ e.k = 3 ∨ e.k = 4 := by
 by_cases h1 : e.k = 1
 exact .inl h1
 by_cases h2 : e.k = 2
 exact .inr (.inl h2)
 by_cases h3 : e.k = 3
 exact .inr (.inr (.inl h3))
 by_cases h4 : e.k = 4
 exact .inr (.inr (.inr h4));rw [rightE_0 h1 h2 h3 h4] at h; cases h
theorem txtE_1 {e : Ex} (h : e.k = 1) : txtE e = shw e.wd := by
 cases e; simp only [Ex.k] at h; subst h; rw [txtE.eq_def]; simp [Ex.wd]
theorem txtE_2 {e : Ex} (h : e.k = 2) : txtE e = e.nm := by
 cases e; simp only [Ex.k] at h; subst h; rw [txtE.eq_def]; simp [Ex.nm]
theorem txtE_3 {e x : Ex} (h : e.k = 3) (hx : e.kids = [x]) : txtE e = shwO e.op ++ par (decide (x.k = 4)) (txtE x) := by
 cases e with
 | mk k op wd nm kids a => change k = 3 at h; change kids = [x] at hx; subst h hx; rw [txtE]; simp [Ex.op]
theorem txtE_4 {e x y : Ex} (h : e.k = 4) (hx : e.kids = [x, y]) : txtE e = par (inn e.op x false) (txtE x) ++ ([32] ++ shwO e.op ++ [32]) ++ par (inn e.op y true) (txtE y) := by
 cases e with
 | mk k op wd nm kids a => change k = 4 at h; change kids = [x, y] at hx; subst h hx; rw [txtE]; simp [Ex.op]
end
end Go.Proofs.YtjoepkpdanolkaaGreatDoor


namespace Go.Proofs.YtjoepkpdanolkaaGreatDoor
open Go.RowKit Sx LexS _root_.Go.Proofs.Tryz
/-- a text 'G' behind 'l', up to where it is too long -/
def TxR (l G r : List UInt8) : Prop := (l.length + G.length ≤ 65536 → r = l ++ G) ∧ (65536 < l.length + G.length → 65536 < r.length) ∧ r.length ≤ l.length + G.length ∧ l.length ≤ r.length
theorem TxR.app (l G : List UInt8) : TxR l G (l ++ G) := ⟨fun _ => rfl, fun h => by simpa using h, by simp, by simp⟩
theorem TxR.skip {l : List UInt8} (h : 65536 < l.length) (G : List UInt8) : TxR l G l := ⟨fun h1 => by omega, fun _ => h, by omega, by omega⟩
theorem TxR.trans {l G r G' r' : List UInt8} (h : TxR l G r) (h' : TxR r G' r') : TxR l (G ++ G') r' := by
 obtain ⟨a1, a2, a3, a4⟩ := h;obtain ⟨b1, b2, b3, b4⟩ := h';refine ⟨fun hl => ?_, fun hl => ?_, ?_, by omega⟩;simp only [List.length_append] at hl;have := a1 (by omega);subst this;rw [b1 (by simp; omega), List.append_assoc];simp only [List.length_append] at hl;rcases Nat.lt_or_ge 65536 (l.length + G.length) with h | h;have := a2 h; omega;have := a1 h;subst this;exact b2 (by simp; omega);simp only [List.length_append]; omega
section
variable {n0 : Nat}

set_option maxHeartbeats 1000000 in
theorem tkid_any (x : Ex) (hrec : ∀ (v : Value) (l : List UInt8) (w : World) (ll : List Value), ExV w (· < n0) x ll → w.ownsRow 0 5 1 v l.length (bytesL l) → (∀ k, v.ownBlock = some k → n0 ≤ k) → n0 ≤ w.heap.size → 0 < n0 → Sig w → l.length + (txtE x).length ≤ 1099511627776 →
      Ret Tryz.prog 23 [v, .agg ll.toArray] w fun r w' => ∃ l', RowP 5 v r l'.length (bytesL l') w w' ∧ TxR l (txtE x) l')
  (b : Bool) (o : Option Addr) (c : Nat) (bx : Nat) (v : Value) (l : List UInt8) (w : World) (hV : ExV w (· < n0) x (exL x o c)) (hB : Bx 5 n0 77 bx v l w) (hn0 : n0 ≤ w.heap.size) (h0 : 0 < n0) (hsg : Sig w) (hl : l.length + (par b (txtE x)).length ≤ 1099511627776) :
  Ret Tryz.prog 44 [.agg (exL x o c).toArray, .bool b, .pointer (some ⟨bx, 0, none⟩)] w fun r w' => r = .tuple #[] ∧ ∃ v' l', BxP 5 n0 77 bx v v' l' w w' ∧ TxR l (par b (txtE x)) l' := by
 obtain ⟨oa, cap, rfl⟩ := slice_form hB.2.1;have hB2 := hB.2.2;refine ret_of [_, _, _] Tryz.func44 rfl Tryz.ntmps44 rfl ?_;have st := St.init w [];clear st;obtain ⟨w0, rfl⟩ : ∃ w0, w0 = w := ⟨_, rfl⟩
 have st := St.bxInit hB
 have hMn : ∀ k ∈ bx :: (Value.slice oa l.length cap).ownBlock.toList, n0 ≤ k := fun k hk => by
  rcases Nat.lt_or_ge k n0 with h | h
  ·exact absurd hk (hB.notin h)
  ·exact h
 have hsame : ∀ {w1 : World}, Chg (bx :: (Value.slice oa l.length cap).ownBlock.toList) w0 w1 → Same (· < n0) w0 w1 := fun c => ⟨c.size, fun k hk hs => c.block k hs (hB.notin hk)⟩
 refine a2 ?_;refine vc_e (e_bx (l := [_, _, _, _, _, _]) st rfl rfl rfl rfl ?_);intro b3 w hb3 st;refine a8 ?_;refine vif ?_ ?_;intro hc5
 have hl2 : l.length + ((txtE x).length + 2) ≤ 1099511627776 := by
  rw [hc5] at hl
  simp only [par, if_true, List.length_append, List.length_cons, List.length_nil] at hl
  omega
 refine a1 ?_;refine yl st 1 Tryz.isAgg77 ?_;refine vc_e (e_bs1 (l := [_]) st rfl rfl rfl rfl Tryz.underlying77 Tryz.sizeOf5 rfl rfl rfl Tryz.zeroValue5 ?_);intro b7 w hb7 st;refine vc_e (e_appF (bytes := 1) (l := [.int .u8 40]) (len' := (l ++ [40]).length) (ys := bytesL (l ++ [40])) st 3 0 rfl rfl rfl rfl rfl rfl Tryz.underlying77 Tryz.info5 rfl rfl rfl rfl rfl rfl rfl (by unfold maxLen; (try simp only [List.length_append, List.length_cons, List.length_nil]); omega) (by (try simp only [List.length_append, List.length_cons, List.length_nil]); omega) (by simp only [List.length_append, List.length_cons, List.length_nil, Nat.zero_add]) (by simp [bytesL]) ?_);intro oaQ capQ w st;refine vc_e (est st 2 Tryz.sizeOf77 ?_);intro w st;refine a1 ?_
 rotate_left
 intro hc5
 have hl2 : l.length + (txtE x).length ≤ 1099511627776 := by
  rw [hc5] at hl
  simpa [par] using hl
 refine a1 ?_
 all_goals
  refine a3 ?_;(try replace st := st.pick [1, 2, 3] rfl (by decide));refine yl st 1 Tryz.isAgg77 ?_;refine yla st 0 [_, _, _, _, _, _] Tryz.isAgg27 Tryz.sizeOf27 ?_;refine vc_e (e_call [_, _] rfl rfl Tryz.call23 rfl (hrec _ _ _ _ (hV.kept (hsame st.chg)) (st.frnGet (i := 2) rfl) (st.frnN (i := 2) rfl hMn hn0) (Nat.le_trans hn0 st.chg.size) h0 (hsg.kept' st.chg (hB.notin h0)) (by (try simp only [List.length_append, List.length_cons, List.length_nil]); omega)) ?_);rintro r w ⟨l2, hp, hT⟩;have hT2 := hT.2.2.1
  try simp only [List.length_append, List.length_cons, List.length_nil] at hT2
  obtain ⟨o2, c2, hv2⟩ := slice_form hp.1;subst hv2;replace st := st.frnP (i := 2) rfl hp;refine vc_e (est st 1 Tryz.sizeOf77 ?_);intro w st;refine a7 ?_;refine vif ?_ ?_;intro hc12;refine a1 ?_;refine yl st 1 Tryz.isAgg77 ?_;refine vc_e (e_bs1 (l := [_]) st rfl rfl rfl rfl Tryz.underlying77 Tryz.sizeOf5 rfl rfl rfl Tryz.zeroValue5 ?_);intro b14 w hb14 st;refine vc_e (e_appF (bytes := 1) (l := [.int .u8 41]) (len' := (l2 ++ [41]).length) (ys := bytesL (l2 ++ [41])) st 3 0 rfl rfl rfl rfl rfl rfl Tryz.underlying77 Tryz.info5 rfl rfl rfl rfl rfl rfl rfl (by unfold maxLen; (try simp only [List.length_append, List.length_cons, List.length_nil]); omega) (by (try simp only [List.length_append, List.length_cons, List.length_nil]); omega) (by simp only [List.length_append, List.length_cons, List.length_nil, Nat.zero_add]) (by simp [bytesL]) ?_);intro oaQ capQ w st;refine vc_e (est st 2 Tryz.sizeOf77 ?_);intro w st;refine a1 ?_
  rotate_left
  intro hc12;refine a1 ?_
  all_goals
   refine vq_ret0 (.inr rfl) Tryz.results44 ?_;refine ⟨_, rfl, ?_⟩
   first
    | (have h1 : b = true := by assumption
       have h2 : b = false := by assumption
       rw [h1] at h2; cases h2)
    | (have h1 : b = true := by assumption
       exact ⟨rfl, _, l2 ++ [41], st.bxDone (i := 2) (j := 3) rfl rfl rfl hB2.1 hB2.2 hn0, by rw [h1]; exact ((TxR.app l [40]).trans hT).trans (TxR.app l2 [41])⟩)
    | (have h1 : b = false := by assumption
       exact ⟨rfl, _, l2, st.bxDone (i := 1) (j := 2) rfl rfl rfl hB2.1 hB2.2 hn0, by rw [h1]; exact hT⟩)
theorem showO_any (k : Int) (w : World) (hs : Sig w) : Ret Tryz.prog 45 [.int .u8 k] w fun v w' => v = str (shwO k) ∧ w' = w := show_any k w hs

set_option maxHeartbeats 4000000 in
theorem text_any : ∀ (n : Nat) (e : Ex), szo e = n → ∀ (d : Nat), rightE e d = true → OkE e → ∀ (v : Value) (l : List UInt8) (w : World) (ll : List Value), ExV w (· < n0) e ll → w.ownsRow 0 5 1 v l.length (bytesL l) → (∀ k, v.ownBlock = some k → n0 ≤ k) → n0 ≤ w.heap.size → 0 < n0 → Sig w → l.length + (txtE e).length ≤ 1099511627776 →
      Ret Tryz.prog 23 [v, .agg ll.toArray] w fun r w' => ∃ l', RowP 5 v r l'.length (bytesL l') w w' ∧ TxR l (txtE e) l' := by
 intro n;refine Nat.strongRecOn n fun n ih => ?_
 intro e hn d hR hok v l w ll hV ho hvn hn0 h0 hsg hl;subst hn;obtain ⟨oa, cap, rfl⟩ := slice_form ho;obtain ⟨oe, ce, rfl, hr⟩ := ExV.inv hV;refine ret_of [_, _] Tryz.func23 rfl Tryz.ntmps23 rfl ?_;have st := St.init w [];clear st;obtain ⟨w0, rfl⟩ : ∃ w0, w0 = w := ⟨_, rfl⟩
 have st := St.frnInit ho;have hMn : ∀ k ∈ (Value.slice oa l.length cap).ownBlock.toList, n0 ≤ k := fun k hk => hvn k (Option.mem_toList.1 hk)
 have hnot : ∀ {k : Nat}, k < n0 → k ∉ (Value.slice oa l.length cap).ownBlock.toList := fun hk h => by have := hMn _ h; omega
 have hsame : ∀ {w1 : World}, Chg (Value.slice oa l.length cap).ownBlock.toList w0 w1 → Same (· < n0) w0 w1 := fun c => ⟨c.size, fun k hk hs => c.block k hs (hnot hk)⟩
 refine a2 ?_;refine vc_e (e_bx (l := [_]) st rfl rfl rfl rfl ?_);intro b2 w hb2 st;refine vc_e (e_bx (l := [_, _, _, _, _, _]) st rfl rfl rfl rfl ?_);intro b3 w hb3 st;refine a6 ?_;replace st := st.pick [1, 2, 0] rfl (by decide);refine yl st 0 Tryz.isAgg77 ?_;refine vy (y_lensl rfl Tryz.underlying77) ?_;refine a3 ?_;refine vif ?_ ?_;intro hc11;(try simp only [dn] at hc11);refine a2 ?_;refine yl st 0 Tryz.isAgg77 ?_;refine a5 ?_;refine vr1 st Tryz.results23 ?_;exact ⟨l, st.frnDone (i := 1) rfl, TxR.skip (by omega) _⟩;intro hc11;(try simp only [dn] at hc11);refine a4 ?_;refine vy (y_mf [] [_] rfl rfl) ?_;refine a6 ?_;refine vy (y_fa0 rfl Tryz.underlying27 rfl rfl Tryz.sizeOf23 rfl) ?_;refine yl st 2 Tryz.isAgg23 ?_;refine a9 ?_;refine vif ?_ ?_
 ·intro hc16;(try simp only [dn] at hc16);have hl1 := hl;rw [txtE_1 hc16] at hl1;refine ddr Tryz.mixed (.take 1 (.take 2 (.two 0 3 (.one 3 (.one 4 (.one 5 .done))) (.one 0 (.one 4 (.one 5 .done)))))) [.blk b3 (.cells (exL e oe ce).toArray 27 (0, 0))] st ?_;clear st; intro w st hS;refine dfz hS 2 Tryz.underlying27 Tryz.sizeOf2 ?_;refine dld hS 0 Tryz.isAgg2 ?_;refine vd_two rfl rfl ?_ ?_;refine (e_run rfl rfl (y_ld st 0 rfl Tryz.isAgg77 rfl rfl) ?_);refine vd_next st.dr ?_; intro hS;refine vd_do rfl (e_call [_] rfl rfl Tryz.call16 rfl (wprint_any _ _ hok.wd) ?_);rintro _ w ⟨rfl, cw⟩;replace st := st.call0 cw
  rotate_left
  refine (e_call [_] rfl rfl Tryz.call16 rfl (wprint_any _ _ hok.wd) ?_);rintro _ w ⟨rfl, cw⟩;replace st := st.call0 cw;refine vd_next st.dr ?_; intro hS;refine vd_do rfl (e_run rfl rfl (y_ld st 0 rfl Tryz.isAgg77 rfl rfl) ?_)
  all_goals
   refine vd_next st.dr ?_; intro hS;refine vd_do rfl (e_appsF (len' := (l ++ shw e.wd).length) (ys := bytesL (l ++ shw e.wd)) st 1 rfl rfl rfl rfl rfl Tryz.underlying77 Tryz.underlying9 Tryz.info5 rfl rfl rfl (List.length_append).symm (by simp [bytesL]) (by simp only [List.length_append, List.length_cons, List.length_nil]; omega) ?_);intro oaQ capQ w st; dsimp only [setNth] at st;refine vd_next st.dr ?_; intro hS;refine vd_do rfl (est st 0 Tryz.sizeOf77 ?_);intro w st; dsimp only [setNth, wr] at st;refine vd_next st.dr ?_; intro hS;refine vd_end (vq_block (vq_then (sr ?_)));refine yl st 0 Tryz.isAgg77 ?_;refine a4 ?_;refine vr1 st Tryz.results23 ?_;exact ⟨_, st.frnDone (i := 1) rfl, by rw [txtE_1 (e := e) (by assumption)]; exact TxR.app _ _⟩
 intro hc16;(try simp only [dn] at hc16);refine a6 ?_;refine vif ?_ ?_;intro hc23;(try simp only [dn] at hc23);have hl2 := hl;rw [txtE_2 hc23] at hl2;refine a1 ?_;refine yl st 0 Tryz.isAgg77 ?_;refine yfz 3 Tryz.underlying27 Tryz.sizeOf9 ?_;refine yl st 2 Tryz.isAgg9 ?_;refine vc_e (e_appsF (len' := (l ++ e.nm).length) (ys := bytesL (l ++ e.nm)) st 1 rfl rfl rfl rfl rfl Tryz.underlying77 Tryz.underlying9 Tryz.info5 rfl rfl rfl (List.length_append).symm (by simp [bytesL]) (by simp only [List.length_append, List.length_cons, List.length_nil]; omega) ?_);intro oaQ capQ w st; dsimp only [setNth] at st;refine vc_e (est st 0 Tryz.sizeOf77 ?_);intro w st; dsimp only [setNth, wr] at st;refine a5 ?_;refine yl st 0 Tryz.isAgg77 ?_;refine a4 ?_;refine vr1 st Tryz.results23 ?_;exact ⟨_, st.frnDone (i := 1) rfl, by rw [txtE_2 (e := e) (by assumption)]; exact TxR.app _ _⟩;intro hc23;(try simp only [dn] at hc23);refine a6 ?_;refine vif ?_ ?_
 ·intro hc29;(try simp only [dn] at hc29);have hk3 := hc29;obtain ⟨x, hkx, d1, hR1⟩ := rightE_inv3 hR hk3;have hx : e.kids[0]? = some x := by rw [hkx]; rfl
  have hk1 : e.kids.length = 1 := by rw [hkx]; rfl
  obtain ⟨gb, go, rfl, hgS, hgl, hg⟩ := ExRow.at hr (by omega);obtain ⟨o0, c0, hV0, hr0, hc0⟩ := hg 0 x hx;have hl3 := hl;rw [txtE_3 hk3 hkx, List.length_append] at hl3;refine a1 ?_;refine ddr Tryz.mixed (.take 1 (.take 2 (.two 0 3 (.one 3 (.one 4 (.one 5 .done))) (.one 0 (.one 4 (.one 5 .done)))))) [.blk b3 (.cells (exL e (some ⟨gb, go, none⟩) ce).toArray 27 (0, 0))] st ?_;clear st; intro w st hS;refine dfz hS 1 Tryz.underlying27 Tryz.sizeOf24 ?_;refine dld hS 0 Tryz.isAgg24 ?_;refine vd_two rfl rfl ?_ ?_;refine (e_run rfl rfl (y_ld st 0 rfl Tryz.isAgg77 rfl rfl) ?_);refine vd_next st.dr ?_; intro hS;refine vd_do rfl (e_call [_] rfl rfl Tryz.call45 rfl (showO_any _ _ (hsg.kept' st.chg (hnot h0))) ?_);rintro _ _ ⟨rfl, rfl⟩
  rotate_left
  refine (e_call [_] rfl rfl Tryz.call45 rfl (showO_any _ _ (hsg.kept' st.chg (hnot h0))) ?_);rintro _ _ ⟨rfl, rfl⟩;refine vd_next st.dr ?_; intro hS;refine vd_do rfl (e_run rfl rfl (y_ld st 0 rfl Tryz.isAgg77 rfl rfl) ?_)
  all_goals
   refine vd_next st.dr ?_; intro hS;refine vd_do rfl (e_appsF (len' := (l ++ shwO e.op).length) (ys := bytesL (l ++ shwO e.op)) st 1 rfl rfl rfl rfl rfl Tryz.underlying77 Tryz.underlying9 Tryz.info5 rfl rfl rfl (List.length_append).symm (by simp [bytesL]) (by simp only [List.length_append, List.length_cons, List.length_nil]; omega) ?_);intro oaQ capQ w st; dsimp only [setNth] at st;refine vd_next st.dr ?_; intro hS;refine vd_do rfl (est st 0 Tryz.sizeOf77 ?_);intro w st; dsimp only [setNth, wr] at st;refine vd_next st.dr ?_; intro hS;refine vd_end (vq_then ?_);refine vdr Tryz.mixed [Yt 0, Yt 1, Yt 2, Yt 3, Yt 4, Yt 5, Yt 6, Yt 7, Yt 8, Yt 9, Yt 10, Nt 11] [.blk b3 (.cells (exL e (some ⟨gb, go, none⟩) ce).toArray 27 (0, 0))] st ?_;clear st; intro w st hS;refine pm hS ?_;refine pfz hS 4 Tryz.underlying27 Tryz.sizeOf25 ?_;refine pld hS 0 Tryz.isAgg25 ?_;refine vp_take rfl rfl rfl hS (fun w st => y_ia (k := 0) rfl rfl Tryz.underlying25 Tryz.sizeOf27 rfl (by omega)) ?_;refine vp_take rfl rfl rfl hS (fun w st => y_ldca (exL x o0 c0) rfl Tryz.isAgg27 Tryz.sizeOf27 rfl (fun i v hi => st.chg.cell (hc0 i v hi) (hnot hgS))) ?_;refine pfz hS 4 Tryz.underlying27 Tryz.sizeOf25 ?_;refine pld hS 0 Tryz.isAgg25 ?_;refine vp_take rfl rfl rfl hS (fun w st => y_ia (k := 0) rfl rfl Tryz.underlying25 Tryz.sizeOf27 rfl (by omega)) ?_;refine pf0 hS Tryz.underlying27 Tryz.sizeOf23 ?_;refine vp_take rfl rfl rfl hS (fun w st => y_ldc rfl Tryz.isAgg23 (st.chg.cell (hc0 0 _ rfl) (hnot hgS))) ?_;refine vp_take rfl rfl rfl hS (fun w st => y_eqi rfl rfl) ?_;refine vp_do rfl (e_callv [_, _] rfl rfl rfl Tryz.call44 rfl (tkid_any x (fun v l w ll hV ho hn h1 h2 h3 h4 => ih (szo x) (by have := mem_size hx; have := szo_kids e; omega) x rfl d1 hR1 (hok.kid hx) v l w ll hV ho hn h1 h2 h3 h4) _ _ _ b2 _ _ _ (hV0.kept (hsame st.chg)) (st.bxGet (n0 := n0) (by omega) (st.frnN (i := 1) rfl hMn hn0)) (Nat.le_trans hn0 st.chg.size) h0 (hsg.kept' st.chg (hnot h0)) (by simp only [List.length_append]; omega)) ?_);rintro _ w ⟨rfl, vQ, lA, hp, hTA⟩;have hlQlA := hTA.2.2.1;obtain ⟨oQ, cQ, hvQ⟩ := slice_form hp.1.2.1;subst hvQ;replace st := (st.bxCall (.inr hb2) hp).1;refine vp_next st.dr ?_; intro hS;refine vp_end (vq_block (vq_then (sr ?_)));refine yl st 0 Tryz.isAgg77 ?_;refine a4 ?_;refine vr1 st Tryz.results23 ?_;exact ⟨_, st.frnDone (i := 1) rfl, by rw [txtE_3 (e := e) (by assumption) hkx]; exact (TxR.app _ _).trans hTA⟩
 intro hc29;(try simp only [dn] at hc29);refine a6 ?_;refine vif ?_ ?_
 ·intro hc48;(try simp only [dn] at hc48);have hk4 := hc48;obtain ⟨x, y, hkx, ⟨d1, hR1⟩, d2, hR2⟩ := rightE_inv4 hR hk4;have hx : e.kids[0]? = some x := by rw [hkx]; rfl
  have hy : e.kids[1]? = some y := by rw [hkx]; rfl
  have hk2 : e.kids.length = 2 := by rw [hkx]; rfl
  obtain ⟨gb, go, rfl, hgS, hgl, hg⟩ := ExRow.at hr (by omega);obtain ⟨o0, c0, hV0, hr0, hc0⟩ := hg 0 x hx;obtain ⟨o1, c1, hV1, hr1, hc1⟩ := hg 1 y hy;have hl4 := hl;rw [txtE_4 hk4 hkx] at hl4;simp only [List.length_append, List.length_cons, List.length_nil] at hl4;refine a2 ?_;refine yfz 1 Tryz.underlying27 Tryz.sizeOf24 ?_;refine yl st 2 Tryz.isAgg24 ?_;refine vc_e (e_call [_] rfl rfl Tryz.call38 rfl (level_any _ _ (hsg.kept' st.chg (hnot h0))) ?_);rintro _ _ ⟨rfl, rfl⟩;refine a4 ?_;refine ddr Tryz.mixed (.take 0 (.take 1 (.take 2 (.take 3 (.take 4 (.take 5 (.take 6 (.take 7 (.two 8 9 (.one 9 (.one 10 (.one 11 .done))) (.one 8 (.one 10 (.one 11 .done)))))))))))) [.blk b3 (.cells (exL e (some ⟨gb, go, none⟩) ce).toArray 27 (0, 0))] st ?_;clear st; intro w st hS;refine dfz hS 4 Tryz.underlying27 Tryz.sizeOf25 ?_;refine dld hS 0 Tryz.isAgg25 ?_;refine vd_take rfl rfl rfl hS (fun w st => y_ia (k := 0) rfl rfl Tryz.underlying25 Tryz.sizeOf27 rfl (by omega)) ?_;refine vd_take rfl rfl rfl hS (fun w st => y_ldca (exL x o0 c0) rfl Tryz.isAgg27 Tryz.sizeOf27 rfl (fun i v hi => st.chg.cell (hc0 i v hi) (hnot hgS))) ?_;refine dfz hS 4 Tryz.underlying27 Tryz.sizeOf25 ?_;refine dld hS 0 Tryz.isAgg25 ?_;refine vd_take rfl rfl rfl hS (fun w st => y_ia (k := 1) rfl rfl Tryz.underlying25 Tryz.sizeOf27 rfl (by omega)) ?_;refine vd_take rfl rfl rfl hS (fun w st => y_ldca (exL y o1 c1) rfl Tryz.isAgg27 Tryz.sizeOf27 rfl (fun i v hi => st.chg.cell (hc1 i v hi) (hnot hgS))) ?_;refine vd_two rfl rfl ?_ ?_;refine (e_al (l := [_, _, _, _, _, _]) st rfl rfl Tryz.zeroValue27 rfl ?_);intro b7 w hb7 st;refine vd_next st.dr ?_; intro hS;refine vd_do rfl (e_al (l := [_, _, _, _, _, _]) st rfl rfl Tryz.zeroValue27 rfl ?_);intro b8 w hb8 st
  rotate_left
  refine (e_al (l := [_, _, _, _, _, _]) st rfl rfl Tryz.zeroValue27 rfl ?_);intro b8 w hb8 st;refine vd_next st.dr ?_; intro hS;refine vd_do rfl (e_al (l := [_, _, _, _, _, _]) st rfl rfl Tryz.zeroValue27 rfl ?_);intro b7 w hb7 st
  all_goals
   refine vd_next st.dr ?_; intro hS
   first
   | refine vd_do rfl (ests st 0 [_, _, _, _, _, _] Tryz.sizeOf27 ?_)
   | refine vd_do rfl (ests st 1 [_, _, _, _, _, _] Tryz.sizeOf27 ?_)
   intro w st; dsimp only [setNth, wr] at st;refine vd_next st.dr ?_; intro hS
   first
   | refine vd_do rfl (ests st 0 [_, _, _, _, _, _] Tryz.sizeOf27 ?_)
   | refine vd_do rfl (ests st 1 [_, _, _, _, _, _] Tryz.sizeOf27 ?_)
   intro w st; dsimp only [setNth, wr] at st;refine vd_next st.dr ?_; intro hS;refine vd_end (vq_then (vc_seq ?_));replace st := (by first | exact st.pick [2, 3, 1, 0, 4] rfl (by decide) | exact st.pick [2, 3, 0, 1, 4] rfl (by decide) : St w0 (Value.slice oa l.length cap).ownBlock.toList [_, _, .blk b7 (.cells (exL x o0 c0).toArray 27 (0, 0)), .blk b8 (.cells (exL y o1 c1).toArray 27 (0, 0)), .blk b3 (.cells (exL e (some ⟨gb, go, none⟩) ce).toArray 27 (0, 0))] _)
   refine vdr Tryz.mixed [Yt 0, Yt 1, Yt 2, Yt 3, Yt 4, Yt 5, Yt 6, Yt 7, Yt 9, Nt 8, Yt 10, Yt 11, Nt 12] [.blk b7 (.cells (exL x o0 c0).toArray 27 (0, 0)), .blk b8 (.cells (exL y o1 c1).toArray 27 (0, 0)), .blk b3 (.cells (exL e (some ⟨gb, go, none⟩) ce).toArray 27 (0, 0))] st ?_;clear st; intro w st hS;refine pm hS ?_;refine vp_take rfl rfl rfl hS (fun w st => y_lda (vs := [_, _, _, _, _, _]) st 0 rfl Tryz.isAgg27 Tryz.sizeOf27 rfl rfl) ?_;refine pf0 hS Tryz.underlying27 Tryz.sizeOf23 ?_;refine pld hS 0 Tryz.isAgg23 ?_;refine vp_take rfl rfl rfl hS (fun w st => y_eqi rfl rfl) ?_;refine vp_part rfl rfl rfl hS rfl ?_ ?_;intro hg66;(try simp only [dn] at hg66);refine pfz hS 1 Tryz.underlying27 Tryz.sizeOf24 ?_;refine pld hS 0 Tryz.isAgg24 ?_;refine pm hS ?_;refine vp_do rfl (e_call [_] rfl rfl Tryz.call38 rfl (level_any _ _ (hsg.kept' st.chg (hnot h0))) ?_);rintro _ _ ⟨rfl, rfl⟩;refine vp_next st.dr ?_; intro hS;refine vp_take rfl rfl rfl hS (fun w st => y_lss rfl rfl) ?_;refine vp_take rfl rfl rfl hS (fun w st => y_pickt rfl rfl) ?_
   rotate_left
   intro hg66;(try simp only [dn] at hg66);(iterate 3 refine vp_skip rfl rfl rfl hS ?_);refine vp_do rfl (e_skip rfl rfl (vp_next hS (fun hS => ?_)));refine vp_skip rfl rfl rfl hS ?_;refine vp_take rfl rfl rfl hS (fun w st => y_pickf rfl rfl) ?_
   all_goals
    refine vp_do rfl (e_callv [_, _] rfl rfl rfl Tryz.call44 rfl (tkid_any x (fun v l w ll hV ho hn h1 h2 h3 h4 => ih (szo x) (by have := mem_size hx; have := szo_kids e; omega) x rfl d1 hR1 (hok.kid hx) v l w ll hV ho hn h1 h2 h3 h4) _ _ _ b2 _ _ _ (hV0.kept (hsame st.chg)) (st.bxGet (n0 := n0) (by omega) (st.frnN (i := 1) rfl hMn hn0)) (Nat.le_trans hn0 st.chg.size) h0 (hsg.kept' st.chg (hnot h0)) (by first | (rw [← inn_f (op := e.op) (by assumption)]; omega) | (rw [← inn_n (op := e.op) (b := false) (by assumption)]; omega))) ?_);rintro _ w ⟨rfl, vQ, lA, hp, hTA⟩;have hlQlA := hTA.2.2.1;obtain ⟨oQ, cQ, hvQ⟩ := slice_form hp.1.2.1;subst hvQ;replace st := (st.bxCall (.inr hb2) hp).1
    have hA : TxR l (par (inn e.op x false) (txtE x)) lA := by
     first | (rw [inn_f (by assumption)]; exact hTA) | (rw [inn_n (by assumption)]; exact hTA)
    have hA3 := hA.2.2.1;have hso := shwO_len e.op;refine vp_next st.dr ?_; intro hS;refine vp_end (vq_then (sr ?_));refine yl st 0 Tryz.isAgg77 ?_;refine vc_e (e_bs1 (l := [_]) st rfl rfl rfl rfl Tryz.underlying77 Tryz.sizeOf5 rfl rfl rfl Tryz.zeroValue5 ?_);intro b75 w hb75 st;refine vc_e (e_appF (bytes := 1) (l := [.int .u8 32]) (len' := (lA ++ [32]).length) (ys := bytesL (lA ++ [32])) st 2 0 rfl rfl rfl rfl rfl rfl Tryz.underlying77 Tryz.info5 rfl rfl rfl rfl rfl rfl rfl (by unfold maxLen; (try simp only [List.length_append, List.length_cons, List.length_nil]); omega) (by (try simp only [List.length_append, List.length_cons, List.length_nil]); omega) (by simp only [List.length_append, List.length_cons, List.length_nil, Nat.zero_add]) (by simp [bytesL]) ?_);intro oaQ capQ w st; dsimp only [setNth] at st;refine vc_e (est st 1 Tryz.sizeOf77 ?_);intro w st; dsimp only [setNth, wr] at st;refine a3 ?_;replace st := st.pick [1, 2, 3, 4, 5] rfl (by decide);refine ddr Tryz.mixed (.take 1 (.take 2 (.two 0 3 (.one 3 (.one 4 (.one 5 .done))) (.one 0 (.one 4 (.one 5 .done)))))) [.blk b7 (.cells (exL x o0 c0).toArray 27 (0, 0)), .blk b8 (.cells (exL y o1 c1).toArray 27 (0, 0)), .blk b3 (.cells (exL e (some ⟨gb, go, none⟩) ce).toArray 27 (0, 0))] st ?_;clear st; intro w st hS;refine dfz hS 1 Tryz.underlying27 Tryz.sizeOf24 ?_;refine dld hS 2 Tryz.isAgg24 ?_;refine vd_two rfl rfl ?_ ?_;refine (e_run rfl rfl (y_ld st 0 rfl Tryz.isAgg77 rfl rfl) ?_);refine vd_next st.dr ?_; intro hS;refine vd_do rfl (e_call [_] rfl rfl Tryz.call45 rfl (showO_any _ _ (hsg.kept' st.chg (hnot h0))) ?_);rintro _ _ ⟨rfl, rfl⟩
    rotate_left
    refine (e_call [_] rfl rfl Tryz.call45 rfl (showO_any _ _ (hsg.kept' st.chg (hnot h0))) ?_);rintro _ _ ⟨rfl, rfl⟩;refine vd_next st.dr ?_; intro hS;refine vd_do rfl (e_run rfl rfl (y_ld st 0 rfl Tryz.isAgg77 rfl rfl) ?_)
    all_goals
     refine vd_next st.dr ?_; intro hS;refine vd_do rfl (e_appsF (len' := ((lA ++ [32]) ++ shwO e.op).length) (ys := bytesL ((lA ++ [32]) ++ shwO e.op)) st 1 rfl rfl rfl rfl rfl Tryz.underlying77 Tryz.underlying9 Tryz.info5 rfl rfl rfl (List.length_append).symm (by simp [bytesL]) (by simp only [List.length_append, List.length_cons, List.length_nil]; omega) ?_);intro oaQ capQ w st; dsimp only [setNth] at st;refine vd_next st.dr ?_; intro hS;refine vd_do rfl (est st 0 Tryz.sizeOf77 ?_);intro w st; dsimp only [setNth, wr] at st;refine vd_next st.dr ?_; intro hS;refine vd_end (vq_then (sr ?_));refine yl st 0 Tryz.isAgg77 ?_;refine vc_e (e_bs1 (l := [_]) st rfl rfl rfl rfl Tryz.underlying77 Tryz.sizeOf5 rfl rfl rfl Tryz.zeroValue5 ?_);intro b83 w hb83 st;refine vc_e (e_appF (bytes := 1) (l := [.int .u8 32]) (len' := ((lA ++ [32] ++ shwO e.op) ++ [32]).length) (ys := bytesL ((lA ++ [32] ++ shwO e.op) ++ [32])) st 2 0 rfl rfl rfl rfl rfl rfl Tryz.underlying77 Tryz.info5 rfl rfl rfl rfl rfl rfl rfl (by unfold maxLen; (try simp only [List.length_append, List.length_cons, List.length_nil]); omega) (by (try simp only [List.length_append, List.length_cons, List.length_nil]); omega) (by simp only [List.length_append, List.length_cons, List.length_nil, Nat.zero_add]) (by simp [bytesL]) ?_);intro oaQ capQ w st; dsimp only [setNth] at st;refine vc_e (est st 1 Tryz.sizeOf77 ?_);intro w st; dsimp only [setNth, wr] at st;refine a2 ?_;replace st := st.pick [1, 2, 3, 4, 5] rfl (by decide);refine vdr Tryz.mixed [Yt 0, Yt 1, Yt 2, Yt 3, Yt 4, Yt 5, Yt 6, Yt 7, Yt 9, Nt 8, Yt 10, Yt 11, Nt 12] [.blk b7 (.cells (exL x o0 c0).toArray 27 (0, 0)), .blk b8 (.cells (exL y o1 c1).toArray 27 (0, 0)), .blk b3 (.cells (exL e (some ⟨gb, go, none⟩) ce).toArray 27 (0, 0))] st ?_;clear st; intro w st hS;refine pm hS ?_;refine vp_take rfl rfl rfl hS (fun w st => y_lda (vs := [_, _, _, _, _, _]) st 1 rfl Tryz.isAgg27 Tryz.sizeOf27 rfl rfl) ?_;refine pf0 hS Tryz.underlying27 Tryz.sizeOf23 ?_;refine pld hS 1 Tryz.isAgg23 ?_;refine vp_take rfl rfl rfl hS (fun w st => y_eqi rfl rfl) ?_;refine vp_part rfl rfl rfl hS rfl ?_ ?_;intro hg90;(try simp only [dn] at hg90);refine pfz hS 1 Tryz.underlying27 Tryz.sizeOf24 ?_;refine pld hS 1 Tryz.isAgg24 ?_;refine pm hS ?_;refine vp_do rfl (e_call [_] rfl rfl Tryz.call38 rfl (level_any _ _ (hsg.kept' st.chg (hnot h0))) ?_);rintro _ _ ⟨rfl, rfl⟩;refine vp_next st.dr ?_; intro hS;refine vp_take rfl rfl rfl hS (fun w st => y_leq rfl rfl) ?_;refine vp_take rfl rfl rfl hS (fun w st => y_pickt rfl rfl) ?_
     rotate_left
     intro hg90;(try simp only [dn] at hg90);(iterate 3 refine vp_skip rfl rfl rfl hS ?_);refine vp_do rfl (e_skip rfl rfl (vp_next hS (fun hS => ?_)));refine vp_skip rfl rfl rfl hS ?_;refine vp_take rfl rfl rfl hS (fun w st => y_pickf rfl rfl) ?_
     all_goals
      refine vp_do rfl (e_callv [_, _] rfl rfl rfl Tryz.call44 rfl (tkid_any y (fun v l w ll hV ho hn h1 h2 h3 h4 => ih (szo y) (by have := mem_size hy; have := szo_kids e; omega) y rfl d2 hR2 (hok.kid hy) v l w ll hV ho hn h1 h2 h3 h4) _ _ _ b2 _ _ _ (hV1.kept (hsame st.chg)) (st.bxGet (n0 := n0) (by omega) (st.frnN (i := 1) rfl hMn hn0)) (Nat.le_trans hn0 st.chg.size) h0 (hsg.kept' st.chg (hnot h0)) (by simp only [List.length_append, List.length_cons, List.length_nil]; first | (rw [← inn_t (op := e.op) (by assumption)]; omega) | (rw [← inn_n (op := e.op) (b := true) (by assumption)]; omega))) ?_);rintro _ w ⟨rfl, vQ, lB, hp, hTB⟩;have hlQlB := hTB.2.2.1;obtain ⟨oQ, cQ, hvQ⟩ := slice_form hp.1.2.1;subst hvQ;replace st := (st.bxCall (.inr hb2) hp).1;refine vp_next st.dr ?_; intro hS;refine vp_end (vq_block (vq_then (sr ?_)));refine yl st 0 Tryz.isAgg77 ?_;refine a4 ?_;refine vr1 st Tryz.results23 ?_
      first
       | (refine ⟨_, st.frnDone (i := 1) rfl, ?_⟩
          have hB : TxR (lA ++ [32] ++ shwO e.op ++ [32]) (par (inn e.op y true) (txtE y)) lB := by
            first | (rw [inn_t (by assumption)]; exact hTB) | (rw [inn_n (by assumption)]; exact hTB)
          rw [txtE_4 (e := e) (by assumption) hkx]
          have := (((hA.trans (TxR.app lA [32])).trans (TxR.app _ (shwO e.op))).trans (TxR.app _ [32])).trans hB
          simpa only [List.append_assoc] using this)
 intro hc48;(try simp only [dn] at hc48);refine a5 ?_;refine yl st 0 Tryz.isAgg77 ?_;refine a4 ?_;refine vr1 st Tryz.results23 ?_
 (exfalso; rcases rightE_kind hR with h | h | h | h <;> contradiction)
end
end Go.Proofs.YtjoepkpdanolkaaGreatDoor


namespace Go.Proofs.YtjoepkpdanolkaaGreatDoor
open Go.RowKit Sx LexS _root_.Go.Proofs.Tryz
theorem Sig.pos {w : World} (h : Sig w) : 0 < w.heap.size := World.block_lt_of_cell? w _ (h 0 (by omega)).1
/-- Expr's answer -/
def exprT (e : Ex) : List UInt8 × Nat := if rightE e 0 = true then (if (txtE e).length ≤ 65536 then (txtE e, 0) else ([], 4)) else ([], 40)
set_option maxHeartbeats 1000000 in
theorem exprT_any (e : Ex) (hok : OkE e) (l : List Value) (w : World) (hV : ExV w (· < w.heap.size) e l) (hsg : Sig w) (hlen : (txtE e).length ≤ 1099511627776) :
    Ret Tryz.prog 7 [.agg l.toArray] w fun v w' => v = .tuple #[str (exprT e).1, .int .i64 ((exprT e).2 : Int)] ∧ Chg [] w w' := by
 refine ret_of [_] Tryz.func7 rfl Tryz.ntmps7 rfl ?_;have st := St.init w [];obtain ⟨w0, rfl⟩ : ∃ w0, w0 = w := ⟨_, rfl⟩
 have h0 := hsg.pos;obtain ⟨oa, cap, rfl, hr⟩ := ExV.inv hV;refine a2 ?_;refine vc_e (e_bx (l := [_, _, _, _, _, _]) st rfl rfl rfl rfl ?_);intro b1 w hb1 st;refine a7 ?_;refine yla st 0 [_, _, _, _, _, _] Tryz.isAgg27 Tryz.sizeOf27 ?_;refine vc_e (e_call [_, _] rfl rfl Tryz.call22 rfl (expr_any _ e rfl 0 (by omega) _ _ (hV.kept st.sm) (hsg.kept st.chg)) ?_);rintro _ w ⟨rfl, cw⟩;replace st := st.call0 cw;refine a3 ?_;refine vif ?_ ?_;intro hc7;(try simp only [dn] at hc7);refine a8 ?_;refine vq_ret2 st (.inl rfl) Tryz.results7 (.tmp rfl) (.tmp rfl) ?_;refine ⟨_, rfl, ?_⟩;refine ⟨?_, st.chg⟩;unfold exprT;rw [if_neg (by simp_all)]; rfl;intro hc7;(try simp only [dn] at hc7);refine a4 ?_;refine yla st 0 [_, _, _, _, _, _] Tryz.isAgg27 Tryz.sizeOf27 ?_;refine vc_e (e_call [_, _] rfl rfl Tryz.call23 rfl (text_any _ e rfl 0 (by assumption) hok (.slice none 0 0) [] _ _ (hV.kept st.sm) (World.ownsRow_nil _ 0 5 1) (fun k hk => by simp [Value.ownBlock] at hk) st.chg.size h0 (hsg.kept st.chg) (by simpa using hlen)) ?_);rintro r w ⟨l2, hp, hT⟩;obtain ⟨o2, c2, hv2⟩ := slice_form hp.1;subst hv2;replace st := st.call0 (by simpa [Value.ownBlock] using hp.2.1);obtain ⟨t1, t2, -, -⟩ := hT;simp only [List.length_nil, Nat.zero_add, List.nil_append] at t1 t2;refine a7 ?_;refine vy (y_lensl rfl Tryz.underlying77) ?_;refine a3 ?_;refine vif ?_ ?_;intro hc12;(try simp only [dn] at hc12);refine a8 ?_;refine vq_ret2 st (.inl rfl) Tryz.results7 (.tmp rfl) (.tmp rfl) ?_;refine ⟨_, rfl, ?_⟩;refine ⟨?_, st.chg⟩
 have hlong : 65536 < (txtE e).length := by
  rcases Nat.lt_or_ge 65536 (txtE e).length with h | h
  ·exact h
  ·rw [t1 h] at *; omega
 unfold exprT;rw [if_pos (by assumption), if_neg (by omega)]; rfl;intro hc12;(try simp only [dn] at hc12);refine a5 ?_;refine vy (y_b2s rfl (p := l2) (own_rdp hp.1) rfl Tryz.underlying77 Tryz.underlying5 Tryz.underlying9) ?_;refine a5 ?_;refine vq_ret2 st (.inl rfl) Tryz.results7 (.tmp rfl) (.tmp rfl) ?_;refine ⟨_, rfl, ?_⟩;refine ⟨?_, st.chg⟩
 have hshort : (txtE e).length ≤ 65536 := by
  rcases Nat.lt_or_ge 65536 (txtE e).length with h | h
  ·have := t2 h; omega
  ·exact h
 unfold exprT;rw [if_pos (by assumption), if_pos hshort, t1 hshort]; rfl
end Go.Proofs.YtjoepkpdanolkaaGreatDoor


/- What is parsed may be written: expressions. -/
namespace ParS
open Sx LexS

structure TkOk (t : Tok) : Prop where
  name : t.kind = 1 → isName t.text = true
  word : t.word ≤ 9223372036854775807
  at_ : t.at_ ≤ 1048576
def TsOk (ts : List Tok) : Prop := (∀ t ∈ ts, TkOk t) ∧ ts.length ≤ 1048576
theorem TsOk.tail {ts : List Tok} (h : TsOk ts) : TsOk ts.tail := ⟨fun t ht => h.1 t (List.mem_of_mem_tail ht), by rw [List.length_tail]; have := h.2; omega⟩
theorem TsOk.here {ts : List Tok} (h : TsOk ts) : TkOk (ParS.here ts) := by
  cases ts with
  | nil => exact ⟨fun h => (by cases h), by simp [ParS.here, tok0], by simp [ParS.here, tok0]⟩
  | cons x l => exact h.1 x (.head _)
theorem i64_nat {n : Nat} (h : n ≤ 9223372036854775807) : i64 (n : Int) := ⟨by omega, by omega⟩
theorem i64_neg {n : Nat} (h : n ≤ 9223372036854775807) : i64 (-(n : Int)) := ⟨by omega, by omega⟩
theorem TkOk.ati {t : Tok} (h : TkOk t) : i64 (t.at_ : Int) := i64_nat (by have := h.at_; omega)
theorem rightE_mono : ∀ (n : Nat) (x : Ex), SizeOf.sizeOf x = n → ∀ d d', rightE x d = true → d' ≤ d → rightE x d' = true := by
  intro n
  refine Nat.strongRecOn n fun n ih => ?_
  intro x hn d d' hr hd
  obtain ⟨hle, hcase⟩ := rightE_iff.1 hr
  refine rightE_iff.2 ⟨by omega, ?_⟩
  have hkid : ∀ y, y ∈ x.kids → ∀ a b, rightE y a = true → b ≤ a → rightE y b = true := fun y hy a b h1 h2 => ih _ (by have := memE_lt hy; omega) y rfl a b h1 h2
  rcases hcase with h | h | h | h
  · exact .inl h
  · exact .inr (.inl h)
  · obtain ⟨h1, h2, h3, h4, y, hy, hry⟩ := h
    refine .inr (.inr (.inl ⟨h1, h2, h3, h4, y, hy, hkid y (by rw [hy]; exact .head _) _ _ hry ?_⟩))
    split <;> omega
  · obtain ⟨h1, h2, h3, h4, y, z, hyz, hry, hrz⟩ := h
    refine .inr (.inr (.inr ⟨h1, h2, h3, h4, y, z, hyz, hkid y (by rw [hyz]; exact .head _) _ _ hry ?_, hkid z (by rw [hyz]; exact .tail _ (.head _)) _ _ hrz ?_⟩))
    · split <;> omega
    · split <;> omega
theorem right_le {x : Ex} {d d' : Nat} (h : rightE x d = true) (hd : d' ≤ d) : rightE x d' = true := rightE_mono _ x rfl d d' h hd
/-- a tree that may be a part at the depth 'd' -/
structure Prt (x : Ex) (d : Nat) : Prop where
  ok : OkE x
  r : rightE x d = true
  par : x.k = 4 → rightE x (d + 1) = true
/-- how an operand's reader answers -/
def Reads (u : List Tok → PR Ex) (d : Nat) : Prop := ∀ r x r', TsOk r → u r = .ok (x, r') → Prt x d ∧ TsOk r'
theorem findO_two {s : List UInt8} {op : Nat} (h : findO s = some op) : twoOp (op : Int) = true := by
  unfold findO at h
  have h1 := List.find?_some h
  simp only [Bool.and_eq_true] at h1
  exact h1.1
theorem opT_two {t : Tok} {op : Nat} (h : opT t = some op) : twoOp (op : Int) = true := by
  unfold opT at h; split at h
  · exact findO_two h
  · cases h
theorem okE_bin {op : Nat} {a : Nat} {x y : Ex} (hop : twoOp (op : Int) = true) (ha : i64 (a : Int)) (hx : OkE x) (hy : OkE y) : OkE (binE op a x y) := by
  simp only [twoOp, decide_eq_true_eq] at hop
  refine .mk ⟨by decide, by decide⟩ ⟨by omega, by omega⟩ ⟨by decide, by decide⟩ ha (by simp) ?_
  intro j z hz
  match j, hz with
  | 0, hz => simp at hz; subst hz; exact hx
  | 1, hz => simp at hz; subst hz; exact hy
  | j + 2, hz => simp at hz
theorem loopE_right {u : List Tok → PR Ex} {d : Nat} (hd : d ≤ 64) (hu : Reads u d) : ∀ (n : Nat) (lv : Int) (x : Ex) (r : List Tok) (z : Ex) (r' : List Tok), TsOk r → loopE u n lv x r = .ok (z, r') →
    OkE x → rightE x d = true → (x.k = 4 → rightE x (d + 1) = true ∨ lv ≤ lvlO x.op) → (x.k = 4 → rightE x (d + 1) = true ∨ ∀ o, opT (here r) = some o → lvlO (o : Int) ≤ lvlO x.op) →
    OkE z ∧ rightE z d = true ∧ (z.k = 4 → rightE z (d + 1) = true ∨ lv ≤ lvlO z.op) ∧ (∀ o, opT (here r') = some o → lvlO (o : Int) < lv) ∧ TsOk r'
  | 0, lv, x, r, z, r', _, h, _, _, _, _ => by simp [loopE] at h
  | n + 1, lv, x, r, z, r', hr, h, h1, h2, h3, h4 => by
    simp only [loopE] at h
    cases hop : opT (here r) with
    | none =>
      rw [hop] at h; cases h
      exact ⟨h1, h2, h3, fun o ho => (by rw [hop] at ho; cases ho), hr⟩
    | some op =>
      rw [hop] at h
      simp only at h
      split at h
      · rename_i hlt
        cases h
        exact ⟨h1, h2, h3, fun o ho => (by rw [hop] at ho; cases ho; exact hlt), hr⟩
      · rename_i hge
        cases hy : u r.tail with
        | error f => rw [hy] at h; cases h
        | ok p =>
          obtain ⟨y, r1⟩ := p
          rw [hy] at h
          simp only at h
          obtain ⟨py, hr1⟩ := hu _ _ _ hr.tail hy
          cases hz : loopE u n (lvlO (op : Int) + 1) y r1 with
          | error f => rw [hz] at h; cases h
          | ok q =>
            obtain ⟨z1, r2⟩ := q
            rw [hz] at h
            simp only at h
            obtain ⟨a1, a2, a3, a4, a5⟩ := loopE_right hd hu n _ _ _ _ _ hr1 hz py.ok py.r (fun k => .inl (py.par k)) (fun k => .inl (py.par k))
            have htwo := opT_two hop
            have hleft : rightE x (if inn (op : Int) x false = true then d + 1 else d) = true := by
              split
              · rename_i hin
                unfold inn at hin
                simp only [Bool.and_eq_true, decide_eq_true_eq, Bool.false_and, Bool.or_false] at hin
                rcases h4 hin.1 with k | k
                · exact k
                · have := k op hop; omega
              · exact h2
            have hright : rightE z1 (if inn (op : Int) z1 true = true then d + 1 else d) = true := by
              split
              · rename_i hin
                unfold inn at hin
                simp only [Bool.and_eq_true, decide_eq_true_eq, Bool.true_and, Bool.or_eq_true] at hin
                rcases a3 hin.1 with k | k
                · exact k
                · rcases hin.2 with k2 | k2 <;> omega
              · exact a2
            have hb : rightE (binE op (here r).at_ x z1) d = true := rightE_iff.2 ⟨hd, .inr (.inr (.inr ⟨rfl, htwo, rfl, rfl, x, z1, rfl, hleft, hright⟩))⟩
            exact loopE_right hd hu n lv _ r2 z r' a5 h (okE_bin htwo hr.here.ati h1 a1) hb (fun _ => .inr (by show lv ≤ lvlO (op : Int); omega)) (fun _ => .inr fun o ho => by have := a4 o ho; show lvlO (o : Int) ≤ lvlO (op : Int); omega)
theorem exprW_right {u : List Tok → PR Ex} {d : Nat} (hd : d ≤ 64) (hg : Goes u) (hu : Reads u d) {r r' : List Tok} {x : Ex} (hr : TsOk r) (h : exprW u r = .ok (x, r')) : OkE x ∧ rightE x d = true ∧ TsOk r' := by
  rw [← climbE_expr u hg] at h
  unfold climbE at h
  cases hx : u r with
  | error f => rw [hx] at h; cases h
  | ok p =>
    obtain ⟨y, r1⟩ := p
    rw [hx] at h
    simp only at h
    obtain ⟨py, hr1⟩ := hu _ _ _ hr hx
    obtain ⟨a1, a2, a3, a4, a5⟩ := loopE_right hd hu _ _ _ _ _ _ hr1 h py.ok py.r (fun k => .inl (py.par k)) (fun k => .inl (py.par k))
    exact ⟨a1, a2, a5⟩
theorem leaf_right (e : Nat) {d : Nat} (hd : d ≤ 64) : Reads (leafP e) d := by
  intro r x r' hr h
  unfold leafP at h
  have hh := hr.here
  split at h
  · cases h
    refine ⟨⟨.mk ⟨by decide, by decide⟩ ⟨by decide, by decide⟩ (i64_nat hh.word) hh.ati (by simp) (fun j z hz => by simp at hz), rightE_iff.2 ⟨hd, .inl ⟨rfl, by simp [Ex.wd], rfl, rfl, rfl⟩⟩, fun k => by simp [Ex.k] at k⟩, hr.tail⟩
  · split at h
    · rename_i hk
      cases h
      refine ⟨⟨.mk ⟨by decide, by decide⟩ ⟨by decide, by decide⟩ ⟨by decide, by decide⟩ hh.ati (by simp) (fun j z hz => by simp at hz), rightE_iff.2 ⟨hd, .inr (.inl ⟨rfl, hh.name hk, rfl, rfl, rfl⟩)⟩, fun k => by simp [Ex.k] at k⟩, hr.tail⟩
    · cases h
theorem unary_right (e : Nat) : ∀ (m d : Nat), d + m = 64 → Reads (unaryP e m) d
  | 0, d, hd => by
    intro r x r' hr h
    simp only [unaryP] at h
    split at h
    · cases h
    · exact leaf_right e (by omega) r x r' hr h
  | m + 1, d, hd => by
    intro r x r' hr h
    simp only [unaryP] at h
    have ih := unary_right e m (d + 1) (by omega)
    split at h
    · split at h
      · cases hx : exprW (unaryP e m) r.tail with
        | error f => rw [hx] at h; cases h
        | ok p =>
          obtain ⟨y, r1⟩ := p
          rw [hx] at h
          simp only at h
          obtain ⟨a1, a2, a3⟩ := exprW_right (by omega) (unary_goes e m) ih hr.tail hx
          cases hw : want e [41] r1 with
          | error f => rw [hw] at h; cases h
          | ok r2 =>
            rw [hw] at h
            cases h
            obtain ⟨_, rfl⟩ := want_ok hw
            exact ⟨⟨a1, right_le a2 (by omega), fun _ => a2⟩, a3.tail⟩
      · cases hx : unaryP e m r.tail with
        | error f => rw [hx] at h; cases h
        | ok p =>
          obtain ⟨y, r1⟩ := p
          rw [hx] at h
          cases h
          obtain ⟨py, hr1⟩ := ih _ _ _ hr.tail hx
          have hop : oneOp (if (here r).text = [33] then 18 else 17) = true := by split <;> decide
          refine ⟨⟨.mk ⟨by decide, by decide⟩ (by split <;> exact ⟨by decide, by decide⟩) ⟨by decide, by decide⟩ hr.here.ati (by simp) (fun j z hz => ?_), rightE_iff.2 ⟨by omega, .inr (.inr (.inl ⟨rfl, hop, rfl, rfl, y, rfl, ?_⟩))⟩, fun k => by simp [Ex.k] at k⟩, hr1⟩
          · match j, hz with
            | 0, hz => simp at hz; subst hz; exact py.ok
            | j + 1, hz => simp at hz
          · split
            · rename_i hk; exact py.par hk
            · exact py.r
    · exact leaf_right e (by omega) r x r' hr h
theorem expr_right {e : Nat} {r r' : List Tok} {x : Ex} (hr : TsOk r) (h : exprP e 64 r = .ok (x, r')) : OkE x ∧ rightE x 0 = true ∧ TsOk r' := exprW_right (by omega) (unary_goes e 64) (unary_right e 64 0 rfl) hr h
end ParS


/- What is parsed may be written: statements, programs. -/
namespace ParS
open Sx LexS

section
variable {e : Nat} (he : e ≤ 1048576)
theorem want_ts {s : List UInt8} {r r' : List Tok} (hr : TsOk r) (h : want e s r = .ok r') : TsOk r' := by obtain ⟨_, rfl⟩ := want_ok h; exact hr.tail
theorem name_ts {r r' : List Tok} {t : Tok} (hr : TsOk r) (h : nameP e r = .ok (t, r')) : isName t.text = true ∧ i64 (t.at_ : Int) ∧ TsOk r' := by
  unfold nameP at h; split at h
  · rename_i hk; cases h; exact ⟨hr.here.name hk, hr.here.ati, hr.tail⟩
  · cases h
/-! ### programs -/
def DOk (b : Bool) (x : Dc) : Prop := dcOk b x = true ∧ i64 x.wd ∧ i64 x.a
theorem init_right {r r' : List Tok} {x : Dc} (hr : TsOk r) (h : initP e r = .ok (x, r')) : DOk true x ∧ TsOk r' := by
  unfold initP at h
  cases hn : nameP e r with
  | error f => rw [hn] at h; cases h
  | ok p =>
    obtain ⟨t, r1⟩ := p
    rw [hn] at h; simp only at h
    obtain ⟨n1, n2, k⟩ := name_ts hr hn
    split at h
    · obtain ⟨R, hR⟩ : ∃ R, R = (if isT [45] r1.tail = true then r1.tail.tail else r1.tail) := ⟨_, rfl⟩
      have kR : TsOk R := by
        rw [hR]; split
        · exact k.tail.tail
        · exact k.tail
      rw [← hR] at h
      split at h
      · cases h
      · rename_i y r2 hw
        cases h
        unfold wordP at hw
        split at hw
        · cases hw
          have hh := kR.here.word
          refine ⟨⟨?_, ?_, n2⟩, kR.tail⟩
          · simp only [dcOk, n1, Bool.true_and, if_true, decide_eq_true_eq, ne_eq]; split <;> omega
          · show i64 (if _ then _ else _)
            split
            · exact i64_neg hh
            · exact i64_nat hh
        · cases hw
    · cases h
      exact ⟨⟨by simp [dcOk, n1], i64_nat (n := 0) (by omega), n2⟩, k⟩
end
theorem front_ts {s : List UInt8} (hs : s.length ≤ 65536) : TsOk (front s).1 := by
  obtain ⟨h1, h2⟩ := front_ok (s := s) (T := (front s).1) (f := (front s).2) rfl
  exact ⟨fun t ht => ⟨(h2 t ht).1, (h2 t ht).2.1, by have := (h2 t ht).2.2; omega⟩, by omega⟩
end ParS


/- The reader that goes on when it has failed: what it computes, against the parser that stops. No program in sight. -/
namespace ParS
open Sx LexS

/-- a reader's state: what is left; the first fault (a rule of 0: none yet) -/
structure RS where
  r : List Tok
  f : Flt
end ParS


/- The reader that goes on: lists, statements, threads, programs. -/
namespace ParS
open Sx LexS

/-- one reader behind another -/
def bnd {α β : Type} (p : PR α) (k : α → List Tok → PR β) : PR β := match p with
  | .error f => .error f
  | .ok (a, r) => k a r
def bndW {β : Type} (p : Except Flt (List Tok)) (k : List Tok → PR β) : PR β := match p with
  | .error f => .error f
  | .ok r => k r
section
variable {e : Nat}
section
variable {blk : List Tok → PR (List Sm)} {σ : RS} (hk : (here σ.r).kind = 4 → isSign (here σ.r).text = true)
include hk
end
/-- what stands behind an if's block -/
def elseP (blk : List Tok → PR (List Sm)) (a : Nat) (x : Ex) (b : List Sm) (r1 : List Tok) : PR Sm := if isT wElse r1 = true then bnd (blk r1.tail) (fun l r2 => .ok (Sm.mk 3 [] [] [x] b l (a : Int), r2)) else .ok (Sm.mk 3 [] [] [x] b [] (a : Int), r1)
theorem choice_eq (blk : List Tok → PR (List Sm)) (a : Nat) (r : List Tok) : bnd (condP e r) (fun x r => bnd (blk r) fun b r1 => elseP blk a x b r1) = choiceP e blk a r := by
  unfold choiceP bnd
  cases condP e r with
  | error f => rfl
  | ok p =>
    dsimp only
    cases blk p.2 with
    | error f => rfl
    | ok q =>
      dsimp only
      unfold elseP bnd
      split
      · cases blk q.2.tail <;> rfl
      · rfl
/-- what stands in a swap's parentheses, pieced together -/
def swapQ (e : Nat) (r : List Tok) : PR (List UInt8 × Ex) := bndW (ParS.want e [40] r) fun r => bnd (nameP e r) fun t r1 => bndW (ParS.want e [44] r1) fun r2 => bnd (exprP e 64 r2) fun x r3 => bndW (ParS.want e [41] r3) fun r4 => bndW (ParS.want e [59] r4) fun r5 => .ok ((t.text, x), r5)
theorem swapQ_eq (r : List Tok) : swapQ e r = swapP e r := by
  unfold swapQ swapP bnd bndW
  cases ParS.want e [40] r with
  | error f => rfl
  | ok r0 =>
    dsimp only
    cases nameP e r0 with
    | error f => rfl
    | ok p =>
      dsimp only
      cases ParS.want e [44] p.2 with
      | error f => rfl
      | ok r2 =>
        dsimp only
        cases exprP e 64 r2 with
        | error f => rfl
        | ok q =>
          dsimp only
          cases ParS.want e [41] q.2 with
          | error f => rfl
          | ok r4 => dsimp only; cases ParS.want e [59] r4 <;> rfl
def sideP (e : Nat) (a : Nat) (n : List UInt8) (r1 : List Tok) : PR Sm := if isT wSwap r1 = true then bnd (swapQ e r1.tail) (fun p r2 => .ok (Sm.mk 2 n p.1 [p.2] [] [] (a : Int), r2)) else bnd (exprSemi e r1) (fun x r2 => .ok (Sm.mk 1 n [] [x] [] [] (a : Int), r2))
theorem assign_eq (a : Nat) (r : List Tok) : bnd (nameP e r) (fun t r => bndW (ParS.want e [61] r) fun r1 => sideP e a t.text r1) = assignP e a r := by
  unfold assignP bnd bndW
  cases nameP e r with
  | error f => rfl
  | ok p =>
    dsimp only
    cases ParS.want e [61] p.2 with
    | error f => rfl
    | ok r1 =>
      dsimp only
      unfold sideP bnd
      split
      · rw [swapQ_eq]; cases swapP e r1.tail <;> rfl
      · cases exprSemi e r1 <;> rfl
/-! ### how far statements go -/
theorem want_len {s : List UInt8} {r r' : List Tok} (h : ParS.want e s r = .ok r') : r'.length < r.length := by
  obtain ⟨hc, rfl⟩ := want_ok h; exact tail_lt (isT_ne hc)
theorem thread_eq (r : List Tok) : bnd (nameP e r) (fun t r => bndW (ParS.want e [123] r) fun r1 => bnd (localsP e (r1.length + 1) r1) fun l r2 => bnd (restP e 63 r2) fun b r3 => .ok ((⟨t.text, l, b, (t.at_ : Int)⟩ : Th), r3)) = threadP e r := by
  unfold threadP bnd bndW
  cases nameP e r with
  | error f => rfl
  | ok p =>
    dsimp only
    cases ParS.want e [123] p.2 with
    | error f => rfl
    | ok r1 =>
      dsimp only
      cases localsP e (r1.length + 1) r1 with
      | error f => rfl
      | ok q => dsimp only; cases restP e 63 q.2 <;> rfl
end
end ParS


/- How many statements and expressions a tree has, and how deep it lies. -/
namespace Sx
mutual
def stS : Sm → Nat
  | .mk _ _ _ _ body els _ => 1 + stSs body + stSs els
termination_by structural e => e
def stSs : List Sm → Nat
  | [] => 0
  | e :: r => stS e + stSs r
termination_by structural l => l
end
end Sx
namespace Sx
end Sx


/- How great a tree is that is parsed: no greater than its tokens make it. -/
namespace ParS
open Sx LexS
theorem name_le {l : List UInt8} (h : isName l = true) : l.length ≤ 32 := by
  match l, h with
  | c :: r, h => simp only [isName, Bool.and_eq_true, decide_eq_true_eq] at h; exact h.1.1.1
theorem tl {r : List Tok} (h : r ≠ []) : r.tail.length + 1 = r.length := by cases r with | nil => exact absurd rfl h | cons x l => simp
def BdE (u : List Tok → PR Ex) : Prop := ∀ r x r', TsOk r → u r = .ok (x, r') → szE x + 34 * r'.length ≤ 34 * r.length ∧ TsOk r'
theorem loopE_bd {u : List Tok → PR Ex} (hu : BdE u) : ∀ (n : Nat) (lv : Int) (x : Ex) (r : List Tok) (z : Ex) (r' : List Tok), TsOk r → loopE u n lv x r = .ok (z, r') → szE z + 34 * r'.length ≤ szE x + 34 * r.length ∧ TsOk r'
  | 0, lv, x, r, z, r', _, h => by simp [loopE] at h
  | n + 1, lv, x, r, z, r', hr, h => by
    simp only [loopE] at h
    cases hop : opT (here r) with
    | none => rw [hop] at h; cases h; exact ⟨Nat.le_refl _, hr⟩
    | some op =>
      rw [hop] at h; dsimp only at h
      have hne := tl (opT_ne hop)
      split at h
      · cases h; exact ⟨Nat.le_refl _, hr⟩
      · cases hy : u r.tail with
        | error f => rw [hy] at h; cases h
        | ok p =>
          obtain ⟨y, r1⟩ := p
          rw [hy] at h; dsimp only at h
          obtain ⟨a1, k1⟩ := hu _ _ _ hr.tail hy
          cases hz : loopE u n (lvlO (op : Int) + 1) y r1 with
          | error f => rw [hz] at h; cases h
          | ok q =>
            obtain ⟨z1, r2⟩ := q
            rw [hz] at h; dsimp only at h
            obtain ⟨a2, k2⟩ := loopE_bd hu n _ _ _ _ _ k1 hz
            obtain ⟨a3, k3⟩ := loopE_bd hu n _ _ _ _ _ k2 h
            have e : szE (binE op (here r).at_ x z1) = szE x + szE z1 + 1 := by simp [binE, szE, szEs]
            exact ⟨by omega, k3⟩
theorem exprW_bd {u : List Tok → PR Ex} (hg : Goes u) (hu : BdE u) : BdE (exprW u) := by
  intro r x r' hr h
  rw [← climbE_expr u hg] at h
  unfold climbE at h
  cases hx : u r with
  | error f => rw [hx] at h; cases h
  | ok p =>
    obtain ⟨y, r1⟩ := p
    rw [hx] at h; dsimp only at h
    obtain ⟨a1, k1⟩ := hu _ _ _ hr hx
    obtain ⟨a2, k2⟩ := loopE_bd hu _ _ _ _ _ _ k1 h
    exact ⟨by omega, k2⟩
theorem leaf_bd (e : Nat) : BdE (leafP e) := by
  intro r x r' hr h
  unfold leafP at h
  split at h
  · rename_i hk
    have := tl (kind_ne hk (by decide))
    cases h
    exact ⟨by simp [szE, szEs]; omega, hr.tail⟩
  · split at h
    · rename_i hk
      have := tl (kind_ne hk (by decide))
      have hn := name_le (hr.here.name hk)
      cases h
      refine ⟨?_, hr.tail⟩
      simp only [szE, szEs]; omega
    · cases h
theorem unary_bd (e : Nat) : ∀ m, BdE (unaryP e m)
  | 0 => by
    intro r x r' hr h
    simp only [unaryP] at h
    split at h
    · cases h
    · exact leaf_bd e r x r' hr h
  | m + 1 => by
    intro r x r' hr h
    simp only [unaryP] at h
    split at h
    · rename_i hi
      have hne := tl (inner_ne hi)
      split at h
      · cases hx : exprW (unaryP e m) r.tail with
        | error f => rw [hx] at h; cases h
        | ok p =>
          obtain ⟨y, r1⟩ := p
          rw [hx] at h; dsimp only at h
          obtain ⟨a1, k1⟩ := exprW_bd (unary_goes e m) (unary_bd e m) _ _ _ hr.tail hx
          cases hw : want e [41] r1 with
          | error f => rw [hw] at h; cases h
          | ok r2 => rw [hw] at h; cases h; have := want_len hw; exact ⟨by omega, want_ts k1 hw⟩
      · cases hx : unaryP e m r.tail with
        | error f => rw [hx] at h; cases h
        | ok p =>
          obtain ⟨y, r1⟩ := p
          rw [hx] at h; cases h
          obtain ⟨a1, k1⟩ := unary_bd e m _ _ _ hr.tail hx
          exact ⟨by simp [szE, szEs]; omega, k1⟩
    · exact leaf_bd e r x r' hr h
theorem expr_bd (e m : Nat) : BdE (exprP e m) := exprW_bd (unary_goes e m) (unary_bd e m)
section
variable {e : Nat}
theorem name_bd {r r' : List Tok} {t : Tok} (hr : TsOk r) (h : nameP e r = .ok (t, r')) : t.text.length + 34 * r'.length + 2 ≤ 34 * r.length ∧ TsOk r' := by
  unfold nameP at h; split at h
  · rename_i hk
    have := tl (kind_ne hk (by decide))
    have hn := name_le (hr.here.name hk)
    cases h; exact ⟨by omega, hr.tail⟩
  · cases h
theorem cond_bd {r r' : List Tok} {x : Ex} (hr : TsOk r) (h : condP e r = .ok (x, r')) : szE x + 34 * r'.length + 34 ≤ 34 * r.length ∧ TsOk r' := by
  unfold condP at h
  cases h1 : want e [40] r with
  | error f => rw [h1] at h; cases h
  | ok r1 =>
    rw [h1] at h; dsimp only at h
    have l1 := want_len h1
    have k1 := want_ts hr h1
    cases h2 : exprP e 64 r1 with
    | error f => rw [h2] at h; cases h
    | ok p =>
      obtain ⟨y, r2⟩ := p
      rw [h2] at h; dsimp only at h
      obtain ⟨a2, k2⟩ := expr_bd _ _ _ _ _ k1 h2
      cases h3 : want e [41] r2 with
      | error f => rw [h3] at h; cases h
      | ok r3 => rw [h3] at h; cases h; have := want_len h3; exact ⟨by omega, want_ts k2 h3⟩
theorem semi_bd {r r' : List Tok} {x : Ex} (hr : TsOk r) (h : exprSemi e r = .ok (x, r')) : szE x + 34 * r'.length + 34 ≤ 34 * r.length ∧ TsOk r' := by
  unfold exprSemi at h
  cases h2 : exprP e 64 r with
  | error f => rw [h2] at h; cases h
  | ok p =>
    obtain ⟨y, r2⟩ := p
    rw [h2] at h; dsimp only at h
    obtain ⟨a2, k2⟩ := expr_bd _ _ _ _ _ hr h2
    cases h3 : want e [59] r2 with
    | error f => rw [h3] at h; cases h
    | ok r3 => rw [h3] at h; cases h; have := want_len h3; exact ⟨by omega, want_ts k2 h3⟩
theorem swap_bd {r r' : List Tok} {o : List UInt8} {x : Ex} (hr : TsOk r) (h : swapP e r = .ok ((o, x), r')) : o.length + szE x + 34 * r'.length ≤ 34 * r.length ∧ TsOk r' := by
  rw [← swapQ_eq] at h
  unfold swapQ bnd bndW at h
  cases h1 : want e [40] r with
  | error f => rw [h1] at h; cases h
  | ok r1 =>
    rw [h1] at h; dsimp only at h
    have l1 := want_len h1
    have k1 := want_ts hr h1
    cases hn : nameP e r1 with
    | error f => rw [hn] at h; cases h
    | ok q =>
      obtain ⟨t, r2⟩ := q
      rw [hn] at h; dsimp only at h
      obtain ⟨a2, k2⟩ := name_bd k1 hn
      cases h3 : want e [44] r2 with
      | error f => rw [h3] at h; cases h
      | ok r3 =>
        rw [h3] at h; dsimp only at h
        have l3 := want_len h3
        have k3 := want_ts k2 h3
        cases h4 : exprP e 64 r3 with
        | error f => rw [h4] at h; cases h
        | ok y =>
          obtain ⟨y, r4⟩ := y
          rw [h4] at h; dsimp only at h
          obtain ⟨a4, k4⟩ := expr_bd _ _ _ _ _ k3 h4
          cases h5 : want e [41] r4 with
          | error f => rw [h5] at h; cases h
          | ok r5 =>
            rw [h5] at h; dsimp only at h
            have l5 := want_len h5
            have k5 := want_ts k4 h5
            cases h6 : want e [59] r5 with
            | error f => rw [h6] at h; cases h
            | ok r6 => rw [h6] at h; cases h; have := want_len h6; exact ⟨by omega, want_ts k5 h6⟩
theorem assign_bd {a : Nat} {r r' : List Tok} {s : Sm} (hr : TsOk r) (h : assignP e a r = .ok (s, r')) : szS s + 34 * r'.length ≤ 34 * r.length ∧ TsOk r' := by
  rw [← assign_eq] at h
  unfold bnd bndW at h
  cases hn : nameP e r with
  | error f => rw [hn] at h; cases h
  | ok q =>
    obtain ⟨t, r1⟩ := q
    rw [hn] at h; dsimp only at h
    obtain ⟨a2, k2⟩ := name_bd hr hn
    cases h3 : want e [61] r1 with
    | error f => rw [h3] at h; cases h
    | ok r3 =>
      rw [h3] at h; dsimp only at h
      have l3 := want_len h3
      have k3 := want_ts k2 h3
      unfold sideP bnd at h
      split at h
      · rw [swapQ_eq] at h
        cases h4 : swapP e r3.tail with
        | error f => rw [h4] at h; cases h
        | ok y =>
          obtain ⟨⟨o, x⟩, r4⟩ := y
          rw [h4] at h; cases h
          obtain ⟨a4, k4⟩ := swap_bd k3.tail h4
          simp only [List.length_tail] at a4
          exact ⟨by simp only [szS, szSs, szEs]; omega, k4⟩
      · cases h4 : exprSemi e r3 with
        | error f => rw [h4] at h; cases h
        | ok y =>
          obtain ⟨x, r4⟩ := y
          rw [h4] at h; cases h
          obtain ⟨a4, k4⟩ := semi_bd k3 h4
          exact ⟨by simp only [szS, szSs, szEs, List.length_nil]; omega, k4⟩
def BdB (bk : List Tok → PR (List Sm)) : Prop := ∀ r l r', TsOk r → bk r = .ok (l, r') → szSs l + 34 * r'.length ≤ 34 * r.length ∧ TsOk r'
theorem stmtW_bd {bk : List Tok → PR (List Sm)} (hb : BdB bk) {r r' : List Tok} {s : Sm} (hr : TsOk r) (h : stmtW e bk r = .ok (s, r')) : szS s + 34 * r'.length ≤ 34 * r.length ∧ TsOk r' := by
  rw [stmtW_eq] at h
  have hform : ∀ w, formT (here r) w = true → r.tail.length + 1 = r.length := fun w hw => tl (by
    unfold formT at hw
    simp only [Bool.and_eq_true, decide_eq_true_eq] at hw
    exact kind_ne hw.2 (by decide))
  split at h
  · rename_i hw
    have l0 := hform _ hw
    rw [← choice_eq] at h
    unfold bnd at h
    cases h1 : condP e r.tail with
    | error f => rw [h1] at h; cases h
    | ok p =>
      obtain ⟨x, r1⟩ := p
      rw [h1] at h; dsimp only at h
      obtain ⟨a1, k1⟩ := cond_bd hr.tail h1
      cases h2 : bk r1 with
      | error f => rw [h2] at h; cases h
      | ok q =>
        obtain ⟨b, r2⟩ := q
        rw [h2] at h; dsimp only at h
        obtain ⟨a2, k2⟩ := hb _ _ _ k1 h2
        unfold elseP bnd at h
        split at h
        · cases h3 : bk r2.tail with
          | error f => rw [h3] at h; cases h
          | ok y =>
            obtain ⟨l, r3⟩ := y
            rw [h3] at h; cases h
            obtain ⟨a3, k3⟩ := hb _ _ _ k2.tail h3
            simp only [List.length_tail] at a3
            exact ⟨by simp only [szS, szEs, List.length_nil]; omega, k3⟩
        · cases h
          exact ⟨by simp only [szS, szEs, szSs, List.length_nil]; omega, k2⟩
  · split at h
    · rename_i hw
      have l0 := hform _ hw
      unfold loopP at h
      cases h1 : condP e r.tail with
      | error f => rw [h1] at h; cases h
      | ok p =>
        obtain ⟨x, r1⟩ := p
        rw [h1] at h; dsimp only at h
        obtain ⟨a1, k1⟩ := cond_bd hr.tail h1
        cases h2 : bk r1 with
        | error f => rw [h2] at h; cases h
        | ok q =>
          obtain ⟨b, r2⟩ := q
          rw [h2] at h; cases h
          obtain ⟨a2, k2⟩ := hb _ _ _ k1 h2
          exact ⟨by simp only [szS, szEs, szSs, List.length_nil]; omega, k2⟩
    · split at h
      · rename_i hw
        have l0 := hform _ hw
        unfold guardP at h
        cases h1 : nameP e r.tail with
        | error f => rw [h1] at h; cases h
        | ok p =>
          obtain ⟨t, r1⟩ := p
          rw [h1] at h; dsimp only at h
          obtain ⟨a1, k1⟩ := name_bd hr.tail h1
          cases h2 : bk r1 with
          | error f => rw [h2] at h; cases h
          | ok q =>
            obtain ⟨b, r2⟩ := q
            rw [h2] at h; cases h
            obtain ⟨a2, k2⟩ := hb _ _ _ k1 h2
            exact ⟨by simp only [szS, szEs, szSs, List.length_nil]; omega, k2⟩
      · split at h
        · rename_i hw
          have l0 := hform _ hw
          unfold printP at h
          cases h2 : exprP e 64 r.tail with
          | error f => rw [h2] at h; cases h
          | ok p =>
            obtain ⟨y, r2⟩ := p
            rw [h2] at h; dsimp only at h
            obtain ⟨a2, k2⟩ := expr_bd _ _ _ _ _ hr.tail h2
            cases h3 : want e [59] r2 with
            | error f => rw [h3] at h; cases h
            | ok r3 => rw [h3] at h; cases h; have := want_len h3; exact ⟨by simp only [szS, szEs, szSs, List.length_nil]; omega, want_ts k2 h3⟩
        · split at h
          · rename_i hw
            have l0 := hform _ hw
            unfold skipP at h
            cases h3 : want e [59] r.tail with
            | error f => rw [h3] at h; cases h
            | ok r3 => rw [h3] at h; cases h; have := want_len h3; exact ⟨by simp only [szS, szEs, szSs, List.length_nil]; omega, want_ts hr.tail h3⟩
          · exact assign_bd hr h
theorem restW_bd {st : List Tok → PR Sm} (hs : ∀ r s r', TsOk r → st r = .ok (s, r') → szS s + 34 * r'.length ≤ 34 * r.length ∧ TsOk r') : ∀ (k : Nat) (r : List Tok) (l : List Sm) (r' : List Tok), TsOk r → restW st k r = .ok (l, r') → szSs l + 34 * r'.length ≤ 34 * r.length ∧ TsOk r'
  | 0, r, l, r', _, h => by simp [restW] at h
  | k + 1, r, l, r', hr, h => by
    simp only [restW] at h
    split at h
    · cases h; exact ⟨by simp only [szSs, List.length_tail]; omega, hr.tail⟩
    · cases h1 : st r with
      | error f => rw [h1] at h; cases h
      | ok p =>
        obtain ⟨s, r1⟩ := p
        rw [h1] at h; dsimp only at h
        obtain ⟨a1, k1⟩ := hs _ _ _ hr h1
        cases h2 : restW st k r1 with
        | error f => rw [h2] at h; cases h
        | ok q =>
          obtain ⟨l2, r2⟩ := q
          rw [h2] at h; cases h
          obtain ⟨a2, k2⟩ := restW_bd hs k _ _ _ k1 h2
          exact ⟨by simp only [szSs]; omega, k2⟩
theorem stmt_bd : ∀ (m : Nat) (r : List Tok) (s : Sm) (r' : List Tok), TsOk r → stmtP e m r = .ok (s, r') → szS s + 34 * r'.length ≤ 34 * r.length ∧ TsOk r'
  | 0, r, s, r', hr, h => by
    rw [stmtP_blk] at h
    refine stmtW_bd (bk := blkP e 0) (fun r l r' _ h => ?_) hr h
    simp only [blkP] at h
    split at h <;> cases h
  | m + 1, r, s, r', hr, h => by
    rw [stmtP_blk] at h
    refine stmtW_bd (bk := blkP e (m + 1)) (fun r l r' hr h => ?_) hr h
    simp only [blkP] at h
    cases h1 : want e [123] r with
    | error f => rw [h1] at h; cases h
    | ok r1 =>
      rw [h1] at h; dsimp only at h
      have := want_len h1
      obtain ⟨a, k⟩ := restW_bd (fun r s r' hr h => stmt_bd m r s r' hr h) _ _ _ _ (want_ts hr h1) h
      exact ⟨by omega, k⟩
theorem decl_bd {r r' : List Tok} {x : Dc} (hr : TsOk r) (h : declP e r = .ok (x, r')) : x.nm.length + 1 + 34 * r'.length ≤ 34 * r.length ∧ TsOk r' := by
  unfold declP at h
  cases hn : nameP e r with
  | error f => rw [hn] at h; cases h
  | ok p =>
    obtain ⟨t, r1⟩ := p
    rw [hn] at h; cases h
    obtain ⟨a, k⟩ := name_bd hr hn
    exact ⟨by dsimp only; omega, k⟩
theorem init_bd {r r' : List Tok} {x : Dc} (hr : TsOk r) (h : initP e r = .ok (x, r')) : x.nm.length + 1 + 34 * r'.length ≤ 34 * r.length ∧ TsOk r' := by
  have hts := (init_right hr h).2
  refine ⟨?_, hts⟩
  unfold initP at h
  cases hn : nameP e r with
  | error f => rw [hn] at h; cases h
  | ok p =>
    obtain ⟨t, r1⟩ := p
    rw [hn] at h; dsimp only at h
    obtain ⟨a, k⟩ := name_bd hr hn
    split at h
    · obtain ⟨R, hR⟩ : ∃ R, R = (if isT [45] r1.tail = true then r1.tail.tail else r1.tail) := ⟨_, rfl⟩
      have kR : R.length ≤ r1.length := by rw [hR]; split <;> simp only [List.length_tail] <;> omega
      rw [← hR] at h
      unfold wordP at h
      split at h
      · cases h
      · rename_i y r2 hw
        split at hw
        · cases hw; cases h
          have : R.tail.length ≤ R.length := by simp
          dsimp only; omega
        · cases hw
    · cases h; dsimp only; omega
theorem list_bd {one : List Tok → PR Dc} (ho : ∀ r x r', TsOk r → one r = .ok (x, r') → x.nm.length + 1 + 34 * r'.length ≤ 34 * r.length ∧ TsOk r') : ∀ (n : Nat) (r : List Tok) (l : List Dc) (r' : List Tok), TsOk r → listP e one n r = .ok (l, r') → szDs l + 34 * r'.length ≤ 34 * r.length ∧ TsOk r'
  | 0, r, l, r', _, h => by simp [listP] at h
  | n + 1, r, l, r', hr, h => by
    simp only [listP] at h
    cases h1 : one r with
    | error f => rw [h1] at h; cases h
    | ok p =>
      obtain ⟨x, r1⟩ := p
      rw [h1] at h; dsimp only at h
      obtain ⟨a1, k1⟩ := ho _ _ _ hr h1
      split at h
      · cases h2 : listP e one n r1.tail with
        | error f => rw [h2] at h; cases h
        | ok p =>
          obtain ⟨l2, r2⟩ := p
          rw [h2] at h; cases h
          obtain ⟨a2, k2⟩ := list_bd ho n _ _ _ k1.tail h2
          simp only [List.length_tail] at a2
          exact ⟨by simp only [szDs]; omega, k2⟩
      · cases h2 : want e [59] r1 with
        | error f => rw [h2] at h; cases h
        | ok r2 =>
          rw [h2] at h; cases h
          have := want_len h2
          exact ⟨by simp only [szDs]; omega, want_ts k1 h2⟩
theorem szDs_app (a b : List Dc) : szDs (a ++ b) = szDs a + szDs b := by
  induction a with
  | nil => simp [szDs]
  | cons x a ih => simp only [List.cons_append, szDs, ih]; omega
theorem locals_bd : ∀ (n : Nat) (r : List Tok) (l : List Dc) (r' : List Tok), TsOk r → localsP e n r = .ok (l, r') → szDs l + 34 * r'.length ≤ 34 * r.length ∧ TsOk r'
  | 0, r, l, r', _, h => by simp [localsP] at h
  | n + 1, r, l, r', hr, h => by
    simp only [localsP] at h
    split at h
    · cases hq : listP e (declP e) (r.length + 1) r.tail with
      | error f => rw [hq] at h; cases h
      | ok q =>
        obtain ⟨l1, r1⟩ := q
        rw [hq] at h; dsimp only at h
        obtain ⟨a1, k1⟩ := list_bd (fun _ _ _ h1 h2 => decl_bd h1 h2) _ _ _ _ hr.tail hq
        simp only [List.length_tail] at a1
        cases hz : localsP e n r1 with
        | error f => rw [hz] at h; cases h
        | ok z =>
          obtain ⟨l2, r2⟩ := z
          rw [hz] at h; cases h
          obtain ⟨a2, k2⟩ := locals_bd n _ _ _ k1 hz
          exact ⟨by rw [szDs_app]; omega, k2⟩
    · cases h; exact ⟨by simp [szDs], hr⟩
theorem thread_bd {r r' : List Tok} {t : Th} (hr : TsOk r) (h : threadP e r = .ok (t, r')) : t.nm.length + szDs t.locals + szSs t.body + 1 + 34 * r'.length ≤ 34 * r.length ∧ TsOk r' := by
  rw [← thread_eq] at h
  unfold bnd bndW at h
  cases hn : nameP e r with
  | error f => rw [hn] at h; cases h
  | ok p =>
    obtain ⟨n, r0⟩ := p
    rw [hn] at h; dsimp only at h
    obtain ⟨a1, k1⟩ := name_bd hr hn
    cases hw : want e [123] r0 with
    | error f => rw [hw] at h; cases h
    | ok r1 =>
      rw [hw] at h; dsimp only at h
      have l2 := want_len hw
      cases hl : localsP e (r1.length + 1) r1 with
      | error f => rw [hl] at h; cases h
      | ok q =>
        obtain ⟨l, r2⟩ := q
        rw [hl] at h; dsimp only at h
        obtain ⟨a3, k3⟩ := locals_bd _ _ _ _ (want_ts k1 hw) hl
        cases hb : restP e 63 r2 with
        | error f => rw [hb] at h; cases h
        | ok z =>
          obtain ⟨b, r3⟩ := z
          rw [hb] at h; cases h
          obtain ⟨a4, k4⟩ := restW_bd (fun r s r' hr h => stmt_bd 63 r s r' hr h) _ _ _ _ k3 hb
          exact ⟨by dsimp only; omega, k4⟩
theorem threads_bd : ∀ (n : Nat) (r : List Tok) (l : List Th) (r' : List Tok), TsOk r → threadsP e n r = .ok (l, r') → szTs l + 34 * r'.length ≤ 34 * r.length ∧ TsOk r'
  | 0, r, l, r', _, h => by simp [threadsP] at h
  | n + 1, r, l, r', hr, h => by
    simp only [threadsP] at h
    split at h
    · cases h1 : threadP e r.tail with
      | error f => rw [h1] at h; cases h
      | ok p =>
        obtain ⟨t, r1⟩ := p
        rw [h1] at h; dsimp only at h
        obtain ⟨a1, k1⟩ := thread_bd hr.tail h1
        simp only [List.length_tail] at a1
        cases h2 : threadsP e n r1 with
        | error f => rw [h2] at h; cases h
        | ok p =>
          obtain ⟨l2, r2⟩ := p
          rw [h2] at h; cases h
          obtain ⟨a2, k2⟩ := threads_bd n _ _ _ k1 h2
          exact ⟨by simp only [szTs]; omega, k2⟩
    · cases h; exact ⟨by simp [szTs], hr⟩
theorem prog_bd : ∀ (n : Nat) (r : List Tok) (p : Pg), TsOk r → progP e n r = .ok p → szP p ≤ 34 * r.length
  | 0, r, p, _, h => by simp [progP] at h
  | n + 1, r, p, hr, h => by
    simp only [progP] at h
    split at h
    · cases h1 : listP e (initP e) (r.length + 1) r.tail with
      | error f => rw [h1] at h; cases h
      | ok q =>
        obtain ⟨l, r1⟩ := q
        rw [h1] at h; dsimp only at h
        obtain ⟨a1, k1⟩ := list_bd (fun _ _ _ h1 h2 => init_bd h1 h2) _ _ _ _ hr.tail h1
        simp only [List.length_tail] at a1
        cases h2 : progP e n r1 with
        | error f => rw [h2] at h; cases h
        | ok p2 =>
          rw [h2] at h; cases h
          have := prog_bd n _ _ k1 h2
          simp only [szP, szDs_app] at this ⊢; omega
    · split at h
      · cases h1 : listP e (declP e) (r.length + 1) r.tail with
        | error f => rw [h1] at h; cases h
        | ok q =>
          obtain ⟨l, r1⟩ := q
          rw [h1] at h; dsimp only at h
          obtain ⟨a1, k1⟩ := list_bd (fun _ _ _ h1 h2 => decl_bd h1 h2) _ _ _ _ hr.tail h1
          simp only [List.length_tail] at a1
          cases h2 : progP e n r1 with
          | error f => rw [h2] at h; cases h
          | ok p2 =>
            rw [h2] at h; cases h
            have := prog_bd n _ _ k1 h2
            simp only [szP, szDs_app] at this ⊢; omega
      · cases h1 : threadsP e (r.length + 1) r with
        | error f => rw [h1] at h; cases h
        | ok q =>
          obtain ⟨l, r1⟩ := q
          rw [h1] at h; dsimp only at h
          obtain ⟨a1, k1⟩ := threads_bd _ _ _ _ hr h1
          split at h
          · cases h; simp only [szP, szDs]; omega
          · cases h
end
theorem parse_bd {s : List UInt8} {p : Pg} {e a b : Nat} (h : parseRes s = (p, e, a, b)) : szP p ≤ 2228224 := by
  unfold parseRes at h
  split at h
  · cases h; decide
  · rename_i hs
    split at h
    · cases h; decide
    · have hts := front_ts (s := s) (by omega)
      obtain ⟨hl, -⟩ := front_ok (s := s) (T := (front s).1) (f := (front s).2) rfl
      split at h
      · cases h; decide
      · rename_i q hq
        cases h
        have := prog_bd _ _ _ hts hq
        omega
end ParS


/- What an expression's text is read as, and that places change nothing of what it comes to. -/
namespace ParS
open Sx LexS Go Go.RowKit
theorem exprRes_rk {s : List UInt8} {x : Ex} {a b : Nat} (h : exprRes s = (x, 0, a, b)) : OkE x ∧ rightE x 0 = true ∧ szE x ≤ 2228224 := by
  unfold exprRes at h
  split at h
  · cases h
  · rename_i hs
    split at h
    · cases h
    · have hts := front_ts (s := s) (by omega)
      obtain ⟨hl, -⟩ := front_ok (s := s) (T := (front s).1) (f := (front s).2) rfl
      split at h
      · cases h
      · rename_i y r he
        split at h
        · cases h
          obtain ⟨h1, h2, h3⟩ := expr_right hts he
          have h4 := (expr_bd s.length 64 _ _ _ hts he).1
          exact ⟨h1, h2, by omega⟩
        · cases h
theorem low_tr {h : Int → Int} : ∀ (n : Nat) (x : Ex), SizeOf.sizeOf x = n → ∀ s, low (trE idS h x) s = low x s := by
  intro n
  refine Nat.strongRecOn n fun n ih => ?_
  rintro ⟨k, op, wd, nm, kids, a⟩ hn s
  match kids, hn with
  | [], hn => simp [trE, trEs, low]
  | [x], hn =>
    have e1 := ih _ (by rw [← hn]; simp; omega) x rfl s
    simp only [trE, trEs, low, e1]
  | [x, y], hn =>
    have e1 := ih _ (by rw [← hn]; simp; omega) x rfl s
    have e2 := ih _ (by rw [← hn]; simp; omega) y rfl (low x s).2.1
    simp only [trE, trEs, low, e1, e2]
  | x :: y :: z :: r, hn => simp [trE, trEs, low]
theorem low_same {x y : Ex} (h : zE y = zE x) (s : Nat) : low y s = low x s := by rw [← low_tr (h := fun _ => 0) _ y rfl, ← low_tr (h := fun _ => 0) _ x rfl]; exact congrArg (low · s) h
theorem prg_sz {s : List UInt8} {y : Ex} {a b : Int} {c d e : Nat} (h : parseRes s = (prgP y a b, c, d, e)) : szE y ≤ 2228224 := by
  have := parse_bd h
  have h2 : szE y ≤ szP (prgP y a b) := by
    simp only [szP, prgP, szDs, szTs, szSs, szS, szEs]; omega
  omega
/-! ### the machine's run -/
theorem runN_len (l : List Nd) : ∀ σ, (runN σ l).length = σ.length := by
  induction l with
  | nil => intro σ; rfl
  | cons x r ih =>
    intro σ
    show (runN (stp σ x) r).length = _
    rw [ih]
    cases x <;> simp [stp]
theorem runN_take {l : List Nd} {k : Nat} {x : Nd} (h : l[k]? = some x) (σ : List Int) : runN σ (l.take (k + 1)) = stp (runN σ (l.take k)) x := by
  have : l.take (k + 1) = l.take k ++ [x] := by rw [List.take_add_one, h]; rfl
  rw [this, runN_app]; rfl
/-- what a whole run comes to -/
theorem run_all {e : Ex} {d : Nat} (hr : rightE e d = true) (hk : (rkX e).2 = true) : vlW (runN (List.replicate (low e 0).2.1 0) (low e 0).1) (low e 0).2.2 = (rkX e).1 := by
  have L := low_good _ e rfl d hr hk 0
  exact (L.run (List.replicate (low e 0).2.1 0) (by simp)).2.2
end ParS


/- Turned names and places change no count and no depth; how great a renamed tree is. -/
namespace LexS
open Sx
section
variable {g : List UInt8 → List UInt8} {h : Int → Int}
section
end
end
end LexS


/- What is read of a tree that lies in rows. -/
namespace Sx
open Go Go.RowKit
variable {w : World} {S : Nat → Prop}
end Sx

