/- A part of the proof: contracts of functions and plain laws; each theorem says its own conditions. -/
import Derived.Test.YtnmhlpnapgojjaaDoorK14
import Derived.Test.YtnmhlpnapgojjaaDoorK2
import Derived.Test.YtnmhlpnapgojjaaDoorK9
import Derived.Test.YtnmhlpnapgojjaaDoorK11
import Derived.Test.YtnmhlpnapgojjaaDoorK13
import Derived.Test.YtnmhlpnapgojjaaDoorK10
namespace Go.Proofs.YtnmhlpnapgojjaaDoor
open Go.RowKit Sx LexS
set_option linter.unusedVariables false
set_option linter.unusedSimpArgs false
def t1 (e : Env) (x : Th) : Th := x.setNm (e.g x.nm)
def t2 (e : Env) (x : Th) : Th := (t1 e x).setAt (e.h x.a)
def t3 (e : Env) (x : Th) : Th := (t2 e x).setLocals (x.locals.map (trD e.g e.h))
/-- what a tree is turned by, as a caller has it -/
structure Fns where
  g : List UInt8 → List UInt8
  h : Int → Int
  fn : Nat
  fa : Nat
  cn : List Value
  ca : List Value
  E : List Nat
  ψ : World → Prop
structure Fns.Ok (f : Fns) : Prop where
  nm : ∀ s w, f.ψ w → Ret Tryd.prog f.fn ([] ++ [str s] ++ f.cn) w fun v w' => v = str (f.g s) ∧ w' = w
  at_ : ∀ a w, f.ψ w → Ret Tryd.prog f.fa ([] ++ [.int .i64 a] ++ f.ca) w fun v w' => v = .int .i64 (f.h a) ∧ w' = w
  loc : ∀ w w', f.ψ w → (∀ b ∈ f.E, w'.heap[b]? = w.heap[b]?) → f.ψ w'
  calln : ∀ (xs : Array Value) w, (callFunc f.fn xs).run Tryd.prog w = .ok (.enter f.fn xs) w
  calla : ∀ (xs : Array Value) w, (callFunc f.fa xs).run Tryd.prog w = .ok (.enter f.fa xs) w
def Fns.env (f : Fns) (bn ba be bs : Nat) : Env := ⟨f.g, f.h, f.fn, f.fa, f.cn, f.ca, bn, ba, be, bs, bn :: ba :: be :: bs :: f.E, f.ψ⟩
theorem Fns.Ok.env {f : Fns} (ok : f.Ok) (bn ba be bs : Nat) : (f.env bn ba be bs).Ok :=
  ⟨ok.nm, ok.at_, fun w w' h hk => ok.loc w w' h fun b hb => hk b (by simp [Fns.env, hb]), by simp [Fns.env], by simp [Fns.env], by simp [Fns.env], by simp [Fns.env], ok.calln, ok.calla⟩

set_option maxHeartbeats 4000000 in
theorem turned_any (f : Fns) (ok : f.Ok) {n0 : Nat} (p : Pg) (hok : OkP p) (os ol ot : Option Addr) (cs cl ct : Nat) (w : World) (hSh : DcRow w (· < n0) os p.shared) (hL : DcRow w (· < n0) ol p.locks) (hT : ThRow w (· < n0) ot p.threads) (hn0 : n0 ≤ w.heap.size) (hψ0 : f.ψ w) (hE0 : ∀ b ∈ f.E, b < w.heap.size) :
    Ret Tryd.prog 31 [.agg (pgL p os ol ot cs cl ct).toArray, .func (.func f.fn) #[] f.cn.toArray, .func (.func f.fa) #[] f.ca.toArray] w fun v w' => ∃ l S, v = .agg l.toArray ∧ PgQ w' (trP f.g f.h p) l S ∧ Nw w.heap.size S ∧ Chg [] w w' := by
  refine ret_of [_, _, _] Tryd.func31 rfl Tryd.ntmps31 rfl ?_
  have st := St.init w []
  obtain ⟨w0, rfl⟩ : ∃ w0, w0 = w := ⟨_, rfl⟩
  have hn1 := hok.1.1
  have hn2 := hok.2.1.1
  have hn3 := hok.2.2.1
  have hψ : ∀ {w : World}, Chg [] w0 w → f.ψ w := fun c => ok.loc _ _ hψ0 fun b hb => c.block b (hE0 b hb) (by simp)
  refine vc_seq ?_
  refine vc_region ?_
  refine vc_e (e_bx (l := [_, _, _]) st rfl rfl rfl rfl ?_)
  intro b3 w hb3 st
  refine vc_e (e_bx (l := [_]) st rfl rfl rfl rfl ?_)
  intro b4 w hb4 st
  refine vc_e (e_bx (l := [_]) st rfl rfl rfl rfl ?_)
  intro b5 w hb5 st
  refine vc_e (e_al (l := [_, _, _]) st rfl rfl Tryd.zeroValue25 rfl ?_)
  intro b6 w hb6 st
  refine vc_end ?_
  refine vq_then ?_
  refine vc_keep [(3, _), (4, _), (5, _), (6, _)] ⟨rfl, rfl, rfl, rfl, trivial⟩ ?_
  refine vc_seq ?_
  refine vc_region ?_
  refine vc_y rfl rfl ((by exact y_lda (vs := [_, _, _]) st 3 rfl Tryd.isAgg25 Tryd.sizeOf25 rfl rfl)) ?_
  refine vc_e (e_call [_] rfl rfl Tryd.call65 rfl (pcopyP_any p hok _ _ _ _ _ _ _ (RowC.kept hSh (Same.of_nil st.chg)) (RowC.kept hL (Same.of_nil st.chg)) (hT.kept (Same.of_nil st.chg)) (Nat.le_trans hn0 st.chg.size)) ?_)
  rintro _ w ⟨l, S, rfl, hQ, hN, cw⟩
  have hN := hN
  have hN0 := hN.le st.chg.size
  have hQ2 := hQ
  obtain ⟨os1, cs1, ol1, cl1, ot1, ct1, Ss, Sl, Stt, rfl, q1, q2, q3, rfl⟩ := hQ2
  replace st := St.pushR (r := .tree (Ss ++ (Sl ++ Stt)) (fun _ => True)) st cw (holds_of trivial hQ.lt (fun _ _ _ _ => trivial)) hN.2
  replace st := st.split (φ := fun w => DcRQ w os1 cs1 p.shared Ss) (ψ := fun _ => True) hN0.1 q1 trivial loc_dc (loc_of fun _ _ _ _ => trivial)
  replace st := (st.pick [1, 0, 2, 3, 4, 5] rfl (by decide)).split (φ := fun w => DcRQ w ol1 cl1 p.locks Sl) (ψ := fun w => ThRQ w ot1 ct1 p.threads Stt) hN0.right.1 q2 q3 loc_dc loc_th
  replace st := st.pick [1, 2, 0, 3, 4, 5, 6] rfl (by decide)
  have hN1 := hN0.left
  have hN2 := hN0.right.left
  have hN3 := hN0.right.right
  have hd12 := hN0.ne
  have hd23 := hN0.right.ne
  refine vc_e (e_al (l := [_, _, _]) st rfl rfl Tryd.zeroValue25 rfl ?_)
  intro b7 w hb7 st
  refine vc_e (e_sts (vs := [_, _, _]) st 0 rfl rfl rfl rfl rfl Tryd.sizeOf25 rfl rfl (by first | (right; assumption) | (left; simp)) ?_)
  intro w st; dsimp only [setNth, wr] at st
  refine vc_end ?_
  refine vq_then ?_
  refine vc_keep [(4, _), (5, _), (6, _), (7, _)] ⟨rfl, rfl, rfl, rfl, trivial⟩ ?_
  refine vc_seq ?_
  refine vc_region ?_
  refine vc_y rfl rfl (y_mf [] [_, _] rfl rfl) ?_
  refine vc_y rfl rfl (y_as rfl) ?_
  refine vc_end ?_
  refine vq_then ?_
  refine vc_keep [(4, _), (5, _), (6, _), (7, _), (8, _)] ⟨rfl, rfl, rfl, rfl, rfl, trivial⟩ ?_
  refine vc_seq ?_
  refine vc_region ?_
  refine vc_e (e_al (l := [_]) st rfl rfl Tryd.zeroValue77 rfl ?_)
  intro b9 w hb9 st
  refine vc_end ?_
  refine vq_then ?_
  refine vc_keep [(4, _), (5, _), (6, _), (7, _), (8, _), (9, _)] ⟨rfl, rfl, rfl, rfl, rfl, rfl, trivial⟩ ?_
  refine vc_seq ?_
  refine vc_region ?_
  refine vc_y rfl rfl (y_mf [] [_, _, _] rfl rfl) ?_
  refine vc_e (e_st st 0 rfl rfl rfl rfl Tryd.sizeOf77 rfl rfl (by first | (right; assumption) | (left; simp)) ?_)
  intro w st; dsimp only [setNth, wr] at st
  refine vc_end ?_
  refine vq_then ?_
  refine vc_keep [(4, _), (5, _), (6, _), (7, _), (8, _), (9, _)] ⟨rfl, rfl, rfl, rfl, rfl, rfl, trivial⟩ ?_
  refine vc_seq ?_
  refine vc_region ?_
  refine vc_e (e_al (l := [_]) st rfl rfl Tryd.zeroValue78 rfl ?_)
  intro b10 w hb10 st
  refine vc_end ?_
  refine vq_then ?_
  refine vc_keep [(4, _), (5, _), (6, _), (7, _), (8, _), (9, _), (10, _)] ⟨rfl, rfl, rfl, rfl, rfl, rfl, rfl, trivial⟩ ?_
  refine vc_seq ?_
  refine vc_region ?_
  refine vc_y rfl rfl (y_mf [] [_, _, _, _] rfl rfl) ?_
  refine vc_e (e_st st 0 rfl rfl rfl rfl Tryd.sizeOf78 rfl rfl (by first | (right; assumption) | (left; simp)) ?_)
  intro w st; dsimp only [setNth, wr] at st
  refine vc_end ?_
  refine vq_then ?_
  refine vc_keep [(4, _), (5, _), (6, _), (7, _), (8, _), (10, _)] ⟨rfl, rfl, rfl, rfl, rfl, rfl, trivial⟩ ?_
  refine vc_seq ?_
  refine vc_region ?_
  have hok9 := ok.env b4 b5 b9 b10
  refine vc_y rfl rfl (y_mv rfl) ?_
  refine vc_y rfl rfl (y_fa0 rfl Tryd.underlying25 rfl rfl Tryd.sizeOf22 rfl) ?_
  refine vc_y rfl rfl ((by exact y_ld st 2 rfl Tryd.isAgg22 rfl rfl)) ?_
  refine vc_e (e_callv [_] rfl rfl rfl Tryd.call66 rfl (dl_any (f.env b4 b5 b9 b10) hok9 p.shared hn1 os1 cs1 Ss _ (st.res (i := 4) rfl).1 hN1.1 ⟨st.res (i := 8) rfl, st.res (i := 7) rfl, hψ st.chg⟩ (fun k hk => by
      simp only [Fns.env, List.mem_cons] at hk
      rcases hk with rfl | rfl | rfl | rfl | h
      · exact st.lt (mem_nth (i := 8) rfl) (.head _)
      · exact st.lt (mem_nth (i := 7) rfl) (.head _)
      · exact st.lt (mem_nth (i := 1) rfl) (.head _)
      · exact st.lt (mem_nth (i := 0) rfl) (.head _)
      · exact Nat.lt_of_lt_of_le (hE0 k h) st.chg.size) (fun k hk hk' => by
      simp only [Fns.env, List.mem_cons] at hk'
      rcases hk' with rfl | rfl | rfl | rfl | h
      · exact st.ne (i := 4) (j := 8) (by decide) rfl rfl _ (hk) (.head _)
      · exact st.ne (i := 4) (j := 7) (by decide) rfl rfl _ (hk) (.head _)
      · exact st.ne (i := 4) (j := 1) (by decide) rfl rfl _ (hk) (.head _)
      · exact st.ne (i := 4) (j := 0) (by decide) rfl rfl _ (hk) (.head _)
      · have := hE0 k h; have := hN1.2 k hk; omega)) ?_)
  rintro _ w ⟨rfl, hq, hc⟩
  replace st := st.withinI (i := 4) (fun w => DcRQ w os1 cs1 (p.shared.map (trD f.g f.h)) Ss) rfl hc (fun k hk => hk) (fun k hk => .inr (hN1.2 k hk)) hq loc_dc
  dsimp only [setNth] at st
  refine vc_end ?_
  refine vq_then ?_
  refine vc_keep [(4, _), (5, _), (6, _), (7, _), (8, _), (10, _)] ⟨rfl, rfl, rfl, rfl, rfl, rfl, trivial⟩ ?_
  refine vc_seq ?_
  refine vc_region ?_
  refine vc_y rfl rfl (y_mv rfl) ?_
  refine vc_y rfl rfl ((by exact y_faz (k := 1) rfl Tryd.underlying25 rfl rfl Tryd.sizeOf22 rfl)) ?_
  refine vc_y rfl rfl ((by exact y_ld st 2 rfl Tryd.isAgg22 rfl rfl)) ?_
  refine vc_e (e_callv [_] rfl rfl rfl Tryd.call66 rfl (dl_any (f.env b4 b5 b9 b10) hok9 p.locks hn2 ol1 cl1 Sl _ (st.res (i := 5) rfl).1 hN2.1 ⟨st.res (i := 8) rfl, st.res (i := 7) rfl, hψ st.chg⟩ (fun k hk => by
      simp only [Fns.env, List.mem_cons] at hk
      rcases hk with rfl | rfl | rfl | rfl | h
      · exact st.lt (mem_nth (i := 8) rfl) (.head _)
      · exact st.lt (mem_nth (i := 7) rfl) (.head _)
      · exact st.lt (mem_nth (i := 1) rfl) (.head _)
      · exact st.lt (mem_nth (i := 0) rfl) (.head _)
      · exact Nat.lt_of_lt_of_le (hE0 k h) st.chg.size) (fun k hk hk' => by
      simp only [Fns.env, List.mem_cons] at hk'
      rcases hk' with rfl | rfl | rfl | rfl | h
      · exact st.ne (i := 5) (j := 8) (by decide) rfl rfl _ (hk) (.head _)
      · exact st.ne (i := 5) (j := 7) (by decide) rfl rfl _ (hk) (.head _)
      · exact st.ne (i := 5) (j := 1) (by decide) rfl rfl _ (hk) (.head _)
      · exact st.ne (i := 5) (j := 0) (by decide) rfl rfl _ (hk) (.head _)
      · have := hE0 k h; have := hN2.2 k hk; omega)) ?_)
  rintro _ w ⟨rfl, hq, hc⟩
  replace st := st.withinI (i := 5) (fun w => DcRQ w ol1 cl1 (p.locks.map (trD f.g f.h)) Sl) rfl hc (fun k hk => hk) (fun k hk => .inr (hN2.2 k hk)) hq loc_dc
  dsimp only [setNth] at st
  refine vc_end ?_
  refine vq_then ?_
  refine vc_keep [(4, _), (5, _), (6, _), (7, _), (8, _), (10, _)] ⟨rfl, rfl, rfl, rfl, rfl, rfl, trivial⟩ ?_
  refine vc_seq ?_
  refine vc_seq ?_
  refine vc_region ?_
  refine vc_y rfl rfl ((by exact y_faz (k := 2) rfl Tryd.underlying25 rfl rfl Tryd.sizeOf23 rfl)) ?_
  refine vc_y rfl rfl ((by exact y_ld st 2 rfl Tryd.isAgg23 rfl rfl)) ?_
  refine vc_y rfl rfl (y_lensl rfl Tryd.underlying23) ?_
  refine vc_y rfl rfl (y_mv rfl) ?_
  refine vc_end ?_
  refine vq_then ?_
  refine vc_keep [(4, _), (5, _), (6, _), (7, _), (8, _), (10, _), (28, _), (29, _)] ⟨rfl, rfl, rfl, rfl, rfl, rfl, rfl, rfl, trivial⟩ ?_
  refine vc_block ?_
  refine vc_loop (w0 := w0) (M := []) (fun (j : Nat) => [(4, .pointer (some ⟨b4, 0, none⟩)), (5, .pointer (some ⟨b5, 0, none⟩)), (6, .pointer (some ⟨b6, 0, none⟩)), (7, .pointer (some ⟨b7, 0, none⟩)), (8, .func (.func 66) #[] [.pointer (some ⟨b4, 0, none⟩), .pointer (some ⟨b5, 0, none⟩)].toArray), (10, .pointer (some ⟨b10, 0, none⟩)), (28, .int .i64 (p.threads.length : Int)), (29, .int .i64 (j : Int))]) (fun j => [.tree Stt (fun w => ThRQ w ot1 ct1 (mixL (trT f.g f.h) p.threads j) Stt), .tree Ss (fun w => DcRQ w os1 cs1 (p.shared.map (trD f.g f.h)) Ss), .tree Sl (fun w => DcRQ w ol1 cl1 (p.locks.map (trD f.g f.h)) Sl), .blk b10 (.cells [.func (.func 68) #[] [.pointer (some ⟨b4, 0, none⟩), .pointer (some ⟨b5, 0, none⟩), .pointer (some ⟨b9, 0, none⟩), .pointer (some ⟨b10, 0, none⟩)].toArray].toArray 78 (0, 0)), .blk b9 (.cells [.func (.func 67) #[] [.pointer (some ⟨b4, 0, none⟩), .pointer (some ⟨b5, 0, none⟩), .pointer (some ⟨b9, 0, none⟩)].toArray].toArray 77 (0, 0)), .blk b7 (.cells [.slice os1 p.shared.length cs1, .slice ol1 p.locks.length cl1, .slice ot1 p.threads.length ct1].toArray 25 (0, 0)), .blk b6 (.cells [.slice none 0 0, .slice none 0 0, .slice none 0 0].toArray 25 (0, 0)), .blk b5 (.cells [.func (.func f.fa) #[] f.ca.toArray].toArray 73 (0, 0)), .blk b4 (.cells [.func (.func f.fn) #[] f.cn.toArray].toArray 72 (0, 0))]) (fun j _ => j ≤ p.threads.length) (fun j => p.threads.length - j) 0 ⟨rfl, rfl, rfl, rfl, rfl, rfl, rfl, rfl, trivial⟩ (by simpa only [mixL_zero] using st.pick [3, 4, 5, 0, 1, 2, 6, 7, 8] rfl (by decide)) (by omega) ?_
  clear st
  rintro j w hj st
  refine vc_seq ?_
  refine vc_region ?_
  refine vc_y rfl rfl (y_lss rfl rfl) ?_
  refine vc_end ?_
  refine vq_then ?_
  refine vc_keep [(4, _), (5, _), (6, _), (7, _), (8, _), (10, _), (28, _), (29, _), (30, _)] ⟨rfl, rfl, rfl, rfl, rfl, rfl, rfl, rfl, rfl, trivial⟩ ?_
  refine vc_seq ?_
  refine vc_ifs rfl ?_ ?_
  · intro hc30
    try simp only [dn] at hc30
    obtain ⟨x, hx⟩ : ∃ x, p.threads[j]? = some x := ⟨_, List.getElem?_eq_getElem (by omega)⟩
    have hkx := hok.2.2.2 j x hx
    have hm0 := mixL_get (f := trT f.g f.h) hx
    have hm1 : (((mixL (trT f.g f.h) p.threads j)).set j (t1 (f.env b4 b5 b9 b10) x))[j]? = some (t1 (f.env b4 b5 b9 b10) x) := set_get hm0
    have hm2 : (((mixL (trT f.g f.h) p.threads j)).set j (t2 (f.env b4 b5 b9 b10) x))[j]? = some (t2 (f.env b4 b5 b9 b10) x) := set_get hm0
    have hm3 : (((mixL (trT f.g f.h) p.threads j)).set j (t3 (f.env b4 b5 b9 b10) x))[j]? = some (t3 (f.env b4 b5 b9 b10) x) := set_get hm0
    have h12 : (((mixL (trT f.g f.h) p.threads j)).set j (t1 (f.env b4 b5 b9 b10) x)).set j ((t1 (f.env b4 b5 b9 b10) x).setAt (f.h x.a)) = (((mixL (trT f.g f.h) p.threads j)).set j (t2 (f.env b4 b5 b9 b10) x)) := List.set_set ..
    have h23 : (((mixL (trT f.g f.h) p.threads j)).set j (t2 (f.env b4 b5 b9 b10) x)).set j ((t2 (f.env b4 b5 b9 b10) x).setLocals (x.locals.map (trD f.g f.h))) = (((mixL (trT f.g f.h) p.threads j)).set j (t3 (f.env b4 b5 b9 b10) x)) := List.set_set ..
    have h34 : (((mixL (trT f.g f.h) p.threads j)).set j (t3 (f.env b4 b5 b9 b10) x)).set j ((t3 (f.env b4 b5 b9 b10) x).setBody (trSs f.g f.h x.body)) = mixL (trT f.g f.h) p.threads (j + 1) := by rw [List.set_set]; exact mixL_step (f := trT f.g f.h) hx
    have stK := st
    obtain ⟨b, _, _, _, _, _, _, rfl, -⟩ := thR_focus (st.res (i := 0) rfl).1 hN3.1 hm0
    have st := stK
    clear stK
    have hcell0 : ∀ w, ThRQ w (some ⟨b, 0, none⟩) ct1 (mixL (trT f.g f.h) p.threads j) Stt → w.cell? ⟨b, j * 4 + 0, none⟩ = some (str x.nm) ∧ w.cell? ⟨b, j * 4 + 3, none⟩ = some (.int .i64 x.a) := fun w h => by
      obtain ⟨b', _, _, _, _, _, _, hb', -, hc, -⟩ := thR_focus h hN3.1 hm0
      simp only [Option.some.injEq, Addr.mk.injEq, and_true] at hb'
      subst hb'
      exact ⟨hc 0 _ rfl, hc 3 _ rfl⟩
    refine vc_code_skip ?_
    refine vq_then ?_
    refine vc_keep [(4, _), (5, _), (6, _), (7, _), (8, _), (10, _), (28, _), (29, _)] ⟨rfl, rfl, rfl, rfl, rfl, rfl, rfl, rfl, trivial⟩ ?_
    refine vc_seq ?_
    refine vc_block ?_
    refine vc_seq ?_
    refine vc_region ?_
    refine vc_y rfl rfl (y_mv rfl) ?_
    refine vc_y rfl rfl (y_as rfl) ?_
    refine vc_end ?_
    refine vq_then ?_
    refine vc_keep [(4, _), (5, _), (6, _), (7, _), (8, _), (10, _), (11, _), (28, _), (29, _)] ⟨rfl, rfl, rfl, rfl, rfl, rfl, rfl, rfl, rfl, trivial⟩ ?_
    refine vc_seq ?_
    refine vc_region ?_
    refine vc_y rfl rfl ((by exact y_faz (k := 2) rfl Tryd.underlying25 rfl rfl Tryd.sizeOf23 rfl)) ?_
    refine vc_y rfl rfl ((by exact y_ld st 5 rfl Tryd.isAgg23 rfl rfl)) ?_
    refine vc_y rfl rfl (y_mv rfl) ?_
    refine vc_y rfl rfl ((by exact y_ia0 (k := j) rfl rfl Tryd.underlying23 Tryd.sizeOf42 rfl (by omega))) ?_
    refine vc_y rfl rfl (y_as rfl) ?_
    refine vc_end ?_
    refine vq_then ?_
    refine vc_keep [(4, _), (5, _), (6, _), (7, _), (8, _), (10, _), (12, _), (28, _), (29, _)] ⟨rfl, rfl, rfl, rfl, rfl, rfl, rfl, rfl, rfl, trivial⟩ ?_
    refine vc_seq ?_
    refine vk_draw Tryd.mixed [(0, true), (1, true), (3, true), (4, true), (5, true), (9, true), (10, true), (11, true), (2, true), (6, true), (8, true), (12, true), (7, false), (13, false), (14, true), (15, true), (16, false), (17, true), (18, true), (19, false)] 16 (fun w => St _ _ [.tree Stt (fun w => ThRQ w (some ⟨b, 0, none⟩) ct1 (mixL (trT f.g f.h) p.threads j) Stt), .tree Ss (fun w => DcRQ w os1 cs1 (p.shared.map (trD f.g f.h)) Ss), .tree Sl (fun w => DcRQ w ol1 cl1 (p.locks.map (trD f.g f.h)) Sl), .blk b10 (.cells [.func (.func 68) #[] [.pointer (some ⟨b4, 0, none⟩), .pointer (some ⟨b5, 0, none⟩), .pointer (some ⟨b9, 0, none⟩), .pointer (some ⟨b10, 0, none⟩)].toArray].toArray 78 (0, 0)), .blk b9 (.cells [.func (.func 67) #[] [.pointer (some ⟨b4, 0, none⟩), .pointer (some ⟨b5, 0, none⟩), .pointer (some ⟨b9, 0, none⟩)].toArray].toArray 77 (0, 0)), .blk b7 (.cells [.slice os1 p.shared.length cs1, .slice ol1 p.locks.length cl1, .slice (some ⟨b, 0, none⟩) p.threads.length ct1].toArray 25 (0, 0)), .blk b6 (.cells [.slice none 0 0, .slice none 0 0, .slice none 0 0].toArray 25 (0, 0)), .blk b5 (.cells [.func (.func f.fa) #[] f.ca.toArray].toArray 73 (0, 0)), .blk b4 (.cells [.func (.func f.fn) #[] f.cn.toArray].toArray 72 (0, 0))] w) (by exact st) (by kernel_rfl) (by repeat (first | exact okQ_body | refine okQ_then ?_ | refine okQ_block ?_)) rfl (by kernel_rfl) rfl ?_
    intro w cd; replace st := st.call0 cd; clear cd
    have hS : St _ _ [.tree Stt (fun w => ThRQ w (some ⟨b, 0, none⟩) ct1 (mixL (trT f.g f.h) p.threads j) Stt), .tree Ss (fun w => DcRQ w os1 cs1 (p.shared.map (trD f.g f.h)) Ss), .tree Sl (fun w => DcRQ w ol1 cl1 (p.locks.map (trD f.g f.h)) Sl), .blk b10 (.cells [.func (.func 68) #[] [.pointer (some ⟨b4, 0, none⟩), .pointer (some ⟨b5, 0, none⟩), .pointer (some ⟨b9, 0, none⟩), .pointer (some ⟨b10, 0, none⟩)].toArray].toArray 78 (0, 0)), .blk b9 (.cells [.func (.func 67) #[] [.pointer (some ⟨b4, 0, none⟩), .pointer (some ⟨b5, 0, none⟩), .pointer (some ⟨b9, 0, none⟩)].toArray].toArray 77 (0, 0)), .blk b7 (.cells [.slice os1 p.shared.length cs1, .slice ol1 p.locks.length cl1, .slice (some ⟨b, 0, none⟩) p.threads.length ct1].toArray 25 (0, 0)), .blk b6 (.cells [.slice none 0 0, .slice none 0 0, .slice none 0 0].toArray 25 (0, 0)), .blk b5 (.cells [.func (.func f.fa) #[] f.ca.toArray].toArray 73 (0, 0)), .blk b4 (.cells [.func (.func f.fn) #[] f.cn.toArray].toArray 72 (0, 0))] w := (by exact st)
    refine vk_takeU rfl rfl rfl rfl (fun _ => hS) (fun w => y_mv rfl) ?_
    refine vk_takeU rfl rfl rfl rfl (fun _ => hS) (fun w => y_mv rfl) ?_
    refine vk_takeU rfl rfl rfl rfl (fun _ => hS) (fun w => y_mv rfl) ?_
    refine vk_takeU rfl rfl rfl rfl (fun _ => hS) (fun w => y_nck rfl) ?_
    refine vk_takeU rfl rfl rfl rfl (fun _ => hS) (fun w => y_fa0 rfl Tryd.underlying42 rfl rfl Tryd.sizeOf9 rfl) ?_
    refine vk_takeU rfl rfl rfl rfl (fun _ => hS) (fun w => y_mv rfl) ?_
    refine vk_takeU rfl rfl rfl rfl (fun _ => hS) (fun w => y_nck rfl) ?_
    refine vk_takeU rfl rfl rfl rfl (fun _ => hS) (fun w => (by exact y_fa (k := 3) rfl Tryd.underlying42 rfl rfl Tryd.sizeOf3 rfl)) ?_
    refine vk_take rfl rfl rfl rfl hS (fun w st => (by exact y_ld st 8 rfl Tryd.isAgg72 rfl rfl)) ?_
    refine vk_take rfl rfl rfl rfl hS (fun w st => (by exact y_ldc rfl Tryd.isAgg9 (hcell0 _ (st.res (i := 0) rfl).1).1)) ?_
    refine vk_take rfl rfl rfl rfl hS (fun w st => (by exact y_ld st 7 rfl Tryd.isAgg73 rfl rfl)) ?_
    refine vk_take rfl rfl rfl rfl hS (fun w st => (by exact y_ldc rfl Tryd.isAgg3 (hcell0 _ (st.res (i := 0) rfl).1).2)) ?_
    refine vk_do rfl rfl (e_callv [_] rfl rfl rfl ok.calln rfl (ok.nm x.nm _ (hψ st.chg)) ?_)
    rintro _ _ ⟨rfl, rfl⟩
    refine vk_next (by exact st) ?_; intro hS
    refine vk_do rfl rfl (e_callv [_] rfl rfl rfl ok.calla rfl (ok.at_ x.a _ (hψ st.chg)) ?_)
    rintro _ _ ⟨rfl, rfl⟩
    refine vk_next (by exact st) ?_; intro hS
    refine vk_takeU rfl rfl rfl rfl (fun _ => hS) (fun w => y_nck rfl) ?_
    refine vk_takeU rfl rfl rfl rfl (fun _ => hS) (fun w => y_fa0 rfl Tryd.underlying42 rfl rfl Tryd.sizeOf9 rfl) ?_
    obtain ⟨c1, om1, cm1, on1, cn1, Sl1, Sb1, hb1, r1, k1, ql1, qb1, nl1, nb1, ul1, ub1, z1, z2, pl1, pb1⟩ := thR_focus (st.res (i := 0) rfl).1 hN3.1 hm0
    simp only [Option.some.injEq, Addr.mk.injEq, and_true] at hb1
    subst hb1
    refine vk_do rfl rfl (e_stT st 0 (ψ := fun w => ThRQ w (some ⟨b, 0, none⟩) ct1 (((mixL (trT f.g f.h) p.threads j)).set j (t1 (f.env b4 b5 b9 b10) x)) Stt) rfl rfl rfl rfl Tryd.sizeOf9 rfl r1.mem (.inr (hN3.2 _ r1.mem)) ⟨_, k1 0 _ rfl⟩ (r1.fz _) (z1 _) loc_th ?_)
    intro w st; dsimp only [setNth] at st
    refine vk_late ?_
    refine vk_takeU rfl rfl rfl rfl (fun h => by cases h) (fun w => y_nck rfl) ?_
    refine vk_takeU rfl rfl rfl rfl (fun h => by cases h) (fun w => (by exact y_fa (k := 3) rfl Tryd.underlying42 rfl rfl Tryd.sizeOf3 rfl)) ?_
    clear z1 z2
    obtain ⟨c2, om2, cm2, on2, cn2, Sl2, Sb2, hb2, r2, k2, ql2, qb2, nl2, nb2, ul2, ub2, z1, z2, pl2, pb2⟩ := thR_focus (st.res (i := 0) rfl).1 hN3.1 hm1
    simp only [Option.some.injEq, Addr.mk.injEq, and_true] at hb2
    subst hb2
    refine vk_do rfl rfl (e_stT st 0 (ψ := fun w => ThRQ w (some ⟨b, 0, none⟩) ct1 (((mixL (trT f.g f.h) p.threads j)).set j (t2 (f.env b4 b5 b9 b10) x)) Stt) rfl rfl rfl rfl Tryd.sizeOf3 rfl r2.mem (.inr (hN3.2 _ r2.mem)) ⟨_, k2 3 _ rfl⟩ (r2.fz _) (h12 ▸ z2 (f.h x.a)) loc_th ?_)
    intro w st; dsimp only [setNth] at st
    refine vk_late ?_
    refine vk_end ?_
    refine vq_then ?_
    refine vc_keep [(4, _), (5, _), (6, _), (7, _), (8, _), (10, _), (12, _), (28, _), (29, _)] ⟨rfl, rfl, rfl, rfl, rfl, rfl, rfl, rfl, rfl, trivial⟩ ?_
    refine vc_seq ?_
    refine vc_region ?_
    clear z1 z2
    obtain ⟨c3, om3, cm3, on3, cn3, Sl3, Sb3, hb3, r3, k3, ql3, qb3, nl3, nb3, ul3, ub3, z1, z2, pl3, pb3⟩ := thR_focus (st.res (i := 0) rfl).1 hN3.1 hm2
    simp only [Option.some.injEq, Addr.mk.injEq, and_true] at hb3
    subst hb3
    refine vc_y rfl rfl (y_mv rfl) ?_
    refine vc_y rfl rfl (y_mv rfl) ?_
    refine vc_y rfl rfl (y_nck rfl) ?_
    refine vc_y rfl rfl ((by exact y_fa (k := 1) rfl Tryd.underlying42 rfl rfl Tryd.sizeOf22 rfl)) ?_
    refine vc_y rfl rfl ((by exact y_ldc rfl Tryd.isAgg22 (k3 1 _ rfl))) ?_
    refine vc_e (e_callv [_] rfl rfl rfl Tryd.call66 rfl (dl_any (f.env b4 b5 b9 b10) hok9 x.locals hkx.1.1 om3 cm3 Sl3 _ ql3 nl3 ⟨st.res (i := 8) rfl, st.res (i := 7) rfl, hψ st.chg⟩ (fun k hk => by
        simp only [Fns.env, List.mem_cons] at hk
        rcases hk with rfl | rfl | rfl | rfl | h
        · exact st.lt (mem_nth (i := 8) rfl) (.head _)
        · exact st.lt (mem_nth (i := 7) rfl) (.head _)
        · exact st.lt (mem_nth (i := 4) rfl) (.head _)
        · exact st.lt (mem_nth (i := 3) rfl) (.head _)
        · exact Nat.lt_of_lt_of_le (hE0 k h) st.chg.size) (fun k hk hk' => by
        simp only [Fns.env, List.mem_cons] at hk'
        rcases hk' with rfl | rfl | rfl | rfl | h
        · exact st.ne (i := 0) (j := 8) (by decide) rfl rfl _ (ul3 k hk) (.head _)
        · exact st.ne (i := 0) (j := 7) (by decide) rfl rfl _ (ul3 k hk) (.head _)
        · exact st.ne (i := 0) (j := 4) (by decide) rfl rfl _ (ul3 k hk) (.head _)
        · exact st.ne (i := 0) (j := 3) (by decide) rfl rfl _ (ul3 k hk) (.head _)
        · have := hE0 k h; have := hN3.2 k (ul3 k hk); omega)) ?_)
    rintro _ w ⟨rfl, hq, hc⟩
    replace st := st.withinI (i := 0) (fun w => ThRQ w (some ⟨b, 0, none⟩) ct1 (((mixL (trT f.g f.h) p.threads j)).set j (t3 (f.env b4 b5 b9 b10) x)) Stt) rfl hc ul3 (fun k hk => .inr (hN3.2 k hk)) (h23 ▸ pl3 w (x.locals.map (trD f.g f.h)) (by rw [List.length_map]; rfl) hq hc) loc_th
    dsimp only [setNth] at st
    refine vc_end ?_
    refine vq_then ?_
    refine vc_keep [(4, _), (5, _), (6, _), (7, _), (8, _), (10, _), (12, _), (28, _), (29, _)] ⟨rfl, rfl, rfl, rfl, rfl, rfl, rfl, rfl, rfl, trivial⟩ ?_
    refine vk_draw Tryd.mixed [(1, true), (2, true), (3, true), (0, true), (4, false), (5, false)] 5 (fun w => St _ _ [.tree Stt (fun w => ThRQ w (some ⟨b, 0, none⟩) ct1 (((mixL (trT f.g f.h) p.threads j)).set j (t3 (f.env b4 b5 b9 b10) x)) Stt), .tree Ss (fun w => DcRQ w os1 cs1 (p.shared.map (trD f.g f.h)) Ss), .tree Sl (fun w => DcRQ w ol1 cl1 (p.locks.map (trD f.g f.h)) Sl), .blk b10 (.cells [.func (.func 68) #[] [.pointer (some ⟨b4, 0, none⟩), .pointer (some ⟨b5, 0, none⟩), .pointer (some ⟨b9, 0, none⟩), .pointer (some ⟨b10, 0, none⟩)].toArray].toArray 78 (0, 0)), .blk b9 (.cells [.func (.func 67) #[] [.pointer (some ⟨b4, 0, none⟩), .pointer (some ⟨b5, 0, none⟩), .pointer (some ⟨b9, 0, none⟩)].toArray].toArray 77 (0, 0)), .blk b7 (.cells [.slice os1 p.shared.length cs1, .slice ol1 p.locks.length cl1, .slice (some ⟨b, 0, none⟩) p.threads.length ct1].toArray 25 (0, 0)), .blk b6 (.cells [.slice none 0 0, .slice none 0 0, .slice none 0 0].toArray 25 (0, 0)), .blk b5 (.cells [.func (.func f.fa) #[] f.ca.toArray].toArray 73 (0, 0)), .blk b4 (.cells [.func (.func f.fn) #[] f.cn.toArray].toArray 72 (0, 0))] w) (by exact st) (by kernel_rfl) (by repeat (first | exact okQ_body | refine okQ_then ?_ | refine okQ_block ?_)) rfl (by kernel_rfl) rfl ?_
    intro w cd; replace st := st.call0 cd; clear cd
    have hS : St _ _ [.tree Stt (fun w => ThRQ w (some ⟨b, 0, none⟩) ct1 (((mixL (trT f.g f.h) p.threads j)).set j (t3 (f.env b4 b5 b9 b10) x)) Stt), .tree Ss (fun w => DcRQ w os1 cs1 (p.shared.map (trD f.g f.h)) Ss), .tree Sl (fun w => DcRQ w ol1 cl1 (p.locks.map (trD f.g f.h)) Sl), .blk b10 (.cells [.func (.func 68) #[] [.pointer (some ⟨b4, 0, none⟩), .pointer (some ⟨b5, 0, none⟩), .pointer (some ⟨b9, 0, none⟩), .pointer (some ⟨b10, 0, none⟩)].toArray].toArray 78 (0, 0)), .blk b9 (.cells [.func (.func 67) #[] [.pointer (some ⟨b4, 0, none⟩), .pointer (some ⟨b5, 0, none⟩), .pointer (some ⟨b9, 0, none⟩)].toArray].toArray 77 (0, 0)), .blk b7 (.cells [.slice os1 p.shared.length cs1, .slice ol1 p.locks.length cl1, .slice (some ⟨b, 0, none⟩) p.threads.length ct1].toArray 25 (0, 0)), .blk b6 (.cells [.slice none 0 0, .slice none 0 0, .slice none 0 0].toArray 25 (0, 0)), .blk b5 (.cells [.func (.func f.fa) #[] f.ca.toArray].toArray 73 (0, 0)), .blk b4 (.cells [.func (.func f.fn) #[] f.cn.toArray].toArray 72 (0, 0))] w := (by exact st)
    refine vk_takeU rfl rfl rfl rfl (fun _ => hS) (fun w => y_mv rfl) ?_
    refine vk_takeU rfl rfl rfl rfl (fun _ => hS) (fun w => y_nck rfl) ?_
    refine vk_takeU rfl rfl rfl rfl (fun _ => hS) (fun w => (by exact y_fa (k := 2) rfl Tryd.underlying42 rfl rfl Tryd.sizeOf40 rfl)) ?_
    refine vk_take rfl rfl rfl rfl hS (fun w st => (by exact y_ld st 3 rfl Tryd.isAgg78 rfl rfl)) ?_
    clear z1 z2
    obtain ⟨c4, om4, cm4, on4, cn4, Sl4, Sb4, hb4, r4, k4, ql4, qb4, nl4, nb4, ul4, ub4, z1, z2, pl4, pb4⟩ := thR_focus (st.res (i := 0) rfl).1 hN3.1 hm3
    simp only [Option.some.injEq, Addr.mk.injEq, and_true] at hb4
    subst hb4
    refine vk_do rfl rfl (e_run rfl rfl ((by exact y_ldc rfl Tryd.isAgg40 (k4 2 _ rfl))) ?_)
    refine vk_next (by exact st) ?_; intro hS
    refine vk_do rfl rfl (e_callv [_] rfl rfl rfl Tryd.call68 rfl (sl_any (f.env b4 b5 b9 b10) hok9 _ x.body rfl hkx.2.1 on4 cn4 Sb4 _ qb4 nb4 ⟨⟨⟨st.res (i := 8) rfl, st.res (i := 7) rfl, hψ st.chg⟩, st.res (i := 4) rfl⟩, st.res (i := 3) rfl⟩ (fun k hk => by
        simp only [Fns.env, List.mem_cons] at hk
        rcases hk with rfl | rfl | rfl | rfl | h
        · exact st.lt (mem_nth (i := 8) rfl) (.head _)
        · exact st.lt (mem_nth (i := 7) rfl) (.head _)
        · exact st.lt (mem_nth (i := 4) rfl) (.head _)
        · exact st.lt (mem_nth (i := 3) rfl) (.head _)
        · exact Nat.lt_of_lt_of_le (hE0 k h) st.chg.size) (fun k hk hk' => by
        simp only [Fns.env, List.mem_cons] at hk'
        rcases hk' with rfl | rfl | rfl | rfl | h
        · exact st.ne (i := 0) (j := 8) (by decide) rfl rfl _ (ub4 k hk) (.head _)
        · exact st.ne (i := 0) (j := 7) (by decide) rfl rfl _ (ub4 k hk) (.head _)
        · exact st.ne (i := 0) (j := 4) (by decide) rfl rfl _ (ub4 k hk) (.head _)
        · exact st.ne (i := 0) (j := 3) (by decide) rfl rfl _ (ub4 k hk) (.head _)
        · have := hE0 k h; have := hN3.2 k (ub4 k hk); omega)) ?_)
    rintro _ w ⟨rfl, hq, hc⟩
    replace st := st.withinI (i := 0) (fun w => ThRQ w (some ⟨b, 0, none⟩) ct1 (mixL (trT f.g f.h) p.threads (j + 1)) Stt) rfl hc ub4 (fun k hk => .inr (hN3.2 k hk)) (h34 ▸ pb4 w (trSs f.g f.h x.body) (by rw [trSs_len]; rfl) hq hc) loc_th
    dsimp only [setNth] at st
    refine vk_late ?_
    refine vk_end ?_
    refine vq_block ?_
    refine vq_then ?_
    refine vc_keep [(4, _), (5, _), (6, _), (7, _), (8, _), (10, _), (28, _), (29, _)] ⟨rfl, rfl, rfl, rfl, rfl, rfl, rfl, rfl, trivial⟩ ?_
    refine vc_region ?_
    refine vc_y rfl rfl (y_add rfl rfl (by omega : _ = ((j + 1 : Nat) : Int)) (by omega) (by omega)) ?_
    refine vc_y rfl rfl (y_mv rfl) ?_
    refine vc_end ?_
    refine vq_again (j + 1)  ⟨rfl, rfl, rfl, rfl, rfl, rfl, rfl, rfl, trivial⟩ st ?_ ?_
    · omega
    · omega
  · intro hc30
    try simp only [dn] at hc30
    obtain rfl : j = p.threads.length := by omega
    rw [mixL_all] at st
    refine vc_exit ?_
    refine vq_then_exit ?_
    refine vq_then_exit ?_
    refine vq_block_exit ?_
    refine vq_then ?_
    refine vc_keep [(6, _), (7, _)] ⟨rfl, rfl, trivial⟩ ?_
    refine vc_seq ?_
    refine vc_region ?_
    refine vc_y rfl rfl ((by exact y_lda (vs := [_, _, _]) st 5 rfl Tryd.isAgg25 Tryd.sizeOf25 rfl rfl)) ?_
    refine vc_e (e_sts (vs := [_, _, _]) st 6 rfl rfl rfl rfl rfl Tryd.sizeOf25 rfl rfl (by first | (right; assumption) | (left; simp)) ?_)
    intro w st; dsimp only [setNth, wr] at st
    refine vc_end ?_
    refine vq_then ?_
    refine vc_keep [(6, _)] ⟨rfl, trivial⟩ ?_
    refine vc_ret ?_
    refine vq_ret1 st (.inl rfl) Tryd.results31 (by exact .cell 6 rfl rfl Tryd.isAgg25 Tryd.sizeOf25) ?_
    refine ⟨_, rfl, ?_⟩
    exact ⟨_, Ss ++ (Sl ++ Stt), rfl, ⟨os1, cs1, ol1, cl1, ot1, ct1, Ss, Sl, Stt, by simp [trP], (st.res (i := 1) rfl).1, (st.res (i := 2) rfl).1, (st.res (i := 0) rfl).1, rfl⟩, hN0, st.chg⟩

end Go.Proofs.YtnmhlpnapgojjaaDoor


/- How long a tree's text is: no program in sight. -/
namespace LexS
open Sx
set_option linter.unusedVariables false
set_option linter.unusedSimpArgs false
end LexS


/- Places change no text: no program in sight. -/
namespace LexS
open Sx
set_option linter.unusedVariables false
set_option linter.unusedSimpArgs false
section
variable {h : Int → Int}
end
/-! ### twice -/
section
variable {g : List UInt8 → List UInt8} {h g' : List UInt8 → List UInt8} {k k' : Int → Int}
mutual
theorem trE_trE : ∀ e : Ex, trE g' k' (trE g k e) = trE (fun s => g' (g s)) (fun a => k' (k a)) e
  | .mk _ op wd nm kids a => by simp only [trE, trEs_trEs kids]
termination_by structural e => e
theorem trEs_trEs : ∀ l : List Ex, trEs g' k' (trEs g k l) = trEs (fun s => g' (g s)) (fun a => k' (k a)) l
  | [] => rfl
  | e :: r => by simp only [trEs, trE_trE e, trEs_trEs r]
termination_by structural l => l
end
mutual
theorem trS_trS : ∀ s : Sm, trS g' k' (trS g k s) = trS (fun s => g' (g s)) (fun a => k' (k a)) s
  | .mk _ nm other e body els a => by simp only [trS, trEs_trEs, trSs_trSs body, trSs_trSs els]
termination_by structural e => e
theorem trSs_trSs : ∀ l : List Sm, trSs g' k' (trSs g k l) = trSs (fun s => g' (g s)) (fun a => k' (k a)) l
  | [] => rfl
  | s :: r => by simp only [trSs, trS_trS s, trSs_trSs r]
termination_by structural l => l
end
theorem trP_trP (p : Pg) : trP g' k' (trP g k p) = trP (fun s => g' (g s)) (fun a => k' (k a)) p := by
  have hd : ∀ l : List Dc, (l.map (trD g k)).map (trD g' k') = l.map (trD (fun s => g' (g s)) (fun a => k' (k a))) := fun l => by rw [List.map_map]; rfl
  simp only [trP, hd, List.map_map]
  congr 1
  refine List.map_congr_left fun t _ => ?_
  simp only [Function.comp, trT, hd, trSs_trSs]
end
/-! ### the numbers stay of their kinds -/
section
variable {g : List UInt8 → List UInt8} {k : Int → Int} (hk : ∀ a, i64 a → i64 (k a))
include hk
theorem okE_tr : ∀ (n : Nat) (e : Ex), SizeOf.sizeOf e = n → OkE e → OkE (trE g k e) := by
  intro n
  refine Nat.strongRecOn n fun n ih e hn hok => ?_
  subst hn
  rw [trE_eq, trEs_map]
  refine .mk hok.k hok.op hok.wd (hk _ hok.a) (by simpa using hok.kids.1) fun j x hx => ?_
  rw [List.getElem?_map] at hx
  cases hj : e.kids[j]? with
  | none => rw [hj] at hx; cases hx
  | some y =>
    rw [hj] at hx
    cases hx
    exact ih _ (memE_lt (List.mem_of_getElem? hj)) y rfl (hok.kid hj)
theorem okEs_tr {l : List Ex} (h : OkEs l) : OkEs (trEs g k l) := by
  rw [trEs_map]
  refine ⟨by simpa using h.1, fun j x hx => ?_⟩
  rw [List.getElem?_map] at hx
  cases hj : l[j]? with
  | none => rw [hj] at hx; cases hx
  | some y => rw [hj] at hx; cases hx; exact okE_tr hk _ y rfl (h.2 j y hj)
theorem okS_tr : ∀ (n : Nat) (s : Sm), SizeOf.sizeOf s = n → OkS s → OkS (trS g k s) := by
  intro n
  refine Nat.strongRecOn n fun n ih s hn hok => ?_
  subst hn
  rw [trS_eq, trSs_map, trSs_map]
  have key : ∀ (l : List Sm), (∀ x ∈ l, SizeOf.sizeOf x < SizeOf.sizeOf s) → OkSs l → ∀ (j : Nat) x, (l.map (trS g k))[j]? = some x → OkS x := fun l hl h j x hx => by
    rw [List.getElem?_map] at hx
    cases hj : l[j]? with
    | none => rw [hj] at hx; cases hx
    | some y => rw [hj] at hx; cases hx; exact ih _ (hl y (List.mem_of_getElem? hj)) y rfl (h.2 j y hj)
  exact .mk hok.k (hk _ hok.a) (okEs_tr hk hok.e) (by simpa using hok.body.1) (key _ (fun x hx => memS_lt (.inl hx)) hok.body) (by simpa using hok.els.1) (key _ (fun x hx => memS_lt (.inr hx)) hok.els)
theorem okSs_tr {l : List Sm} (h : OkSs l) : OkSs (trSs g k l) := by
  rw [trSs_map]
  refine ⟨by simpa using h.1, fun j x hx => ?_⟩
  rw [List.getElem?_map] at hx
  cases hj : l[j]? with
  | none => rw [hj] at hx; cases hx
  | some y => rw [hj] at hx; cases hx; exact okS_tr hk _ y rfl (h.2 j y hj)
theorem okD_tr {l : List Dc} (h : OkD l) : OkD (l.map (trD g k)) := by
  refine ⟨by simpa using h.1, fun j x hx => ?_⟩
  rw [List.getElem?_map] at hx
  cases hj : l[j]? with
  | none => rw [hj] at hx; cases hx
  | some y => rw [hj] at hx; cases hx; exact ⟨(h.2 j y hj).1, hk _ (h.2 j y hj).2⟩
theorem okP_tr {p : Pg} (h : OkP p) : OkP (trP g k p) := by
  refine ⟨okD_tr hk h.1, okD_tr hk h.2.1, by simpa [trP] using h.2.2.1, fun j t hj => ?_⟩
  simp only [trP, List.getElem?_map] at hj
  cases hx : p.threads[j]? with
  | none => rw [hx] at hj; cases hj
  | some y =>
    rw [hx] at hj
    cases hj
    obtain ⟨h1, h2, h3⟩ := h.2.2.2 j y hx
    exact ⟨okD_tr hk h1, okSs_tr hk h2, hk _ h3⟩
end
end LexS


namespace Go.Proofs.YtnmhlpnapgojjaaDoor
open Go.RowKit Sx LexS
set_option linter.unusedVariables false
set_option linter.unusedSimpArgs false
end Go.Proofs.YtnmhlpnapgojjaaDoor


namespace Go.Proofs.YtnmhlpnapgojjaaDoor
open Go.RowKit Sx LexS
set_option linter.unusedVariables false
set_option linter.unusedSimpArgs false
/-- a name that is changed for another -/
def renG (fr tn s : Wd) : Wd := if s = fr ∧ s ≠ [] then tn else s
abbrev idN : Int → Int := fun n => n
abbrev renP (p : Pg) (fr tn : Wd) : Pg := trP (renG fr tn) idN p
def renOk (p : Pg) (tn : Wd) : Bool := isName tn && !decide (tn ∈ namesL p)
theorem namesL_len (p : Pg) : (namesL p).length ≤ (nmsP p).length := by
  have := addAll_len (nmsP p) []
  simpa [namesL] using this
theorem contains_any (base : Nat) (ss : List Wd) (x : Wd) (oa : Option Addr) (cap : Nat) (w : World) (hn : ss.length ≤ 4398046511104) (ho : w.ownsRow base 9 1 (.slice oa ss.length cap) ss.length (ss.map str)) :
    Ret Tryd.prog 37 [.slice oa ss.length cap, str x] w fun v w' => v = .bool (decide (x ∈ ss)) ∧ w' = w := by
  rcases ho.2 with ⟨hnil, h0⟩ | ⟨g, cap', cur, hv, hbase, hb, h1, h2, h3, h4⟩
  · have hs : ss = [] := List.length_eq_zero_iff.1 h0
    subst hs
    refine (Tryd.slices_Contains_string_empty oa cap ⟨x.toArray⟩ w).mono ?_
    rintro e w' ⟨rfl, rfl⟩
    exact ⟨_, rfl, by simp, rfl⟩
  · simp only [Value.slice.injEq] at hv
    obtain ⟨rfl, -, rfl⟩ := hv
    have key := Tryd.slices_Contains_string g 0 ss.length cap (ss.map fun s => ⟨s.toArray⟩) ⟨x.toArray⟩ w (by simp) (by omega) (fun j hj => by
      have hj' : j < ss.length := by simpa using hj
      have h5 : (cur.toList.take (ss.length * 1))[j]? = (ss.map str)[j]? := by rw [h4]
      rw [List.getElem?_take_of_lt (by omega)] at h5
      simp only [World.cell?, hb, Nat.zero_add, Option.isSome_none, Bool.false_eq_true, if_false]
      rw [← Array.getElem?_toList, h5]
      simp [hj', str])
    refine key.mono ?_
    rintro e w' ⟨rfl, rfl⟩
    refine ⟨_, rfl, ?_, rfl⟩
    congr 1
    rw [Bool.eq_iff_iff, Lib.containsS_iff, List.take_of_length_le (by simp)]
    simp

theorem ren1_any (fr tn s : Wd) (b4 b5 : Nat) (w : World) (h4 : w.heap[b4]? = some (.cells [str fr].toArray 9 (0, 0))) (h5 : w.heap[b5]? = some (.cells [str tn].toArray 9 (0, 0))) :
    Ret Tryd.prog 38 [str s, .pointer (some ⟨b4, 0, none⟩), .pointer (some ⟨b5, 0, none⟩)] w fun v w' => v = str (renG fr tn s) ∧ w' = w := by
  refine ret_of [_, _, _] Tryd.func38 rfl Tryd.ntmps38 rfl ?_
  have st := St.init w []
  refine vc_seq ?_
  refine vc_region ?_
  refine vc_y rfl rfl (y_as rfl) ?_
  refine vc_end ?_
  refine vq_then ?_
  refine vc_keep [(0, _), (1, _), (2, _)] ⟨rfl, rfl, rfl, trivial⟩ ?_
  refine vc_seq ?_
  refine vc_seq ?_
  refine vc_region ?_
  refine vc_y rfl rfl (y_mv rfl) ?_
  refine vc_y rfl rfl ((by exact y_ldc rfl Tryd.isAgg9 (cell_nth h4 rfl))) ?_
  refine vc_y rfl rfl (y_eqs rfl rfl) ?_
  refine vc_e (e_mvb rfl rfl rfl ?_ ?_)
  · intro hg8
    try simp only [dn] at hg8
    refine vc_y rfl rfl (y_mv rfl) ?_
    refine vc_y rfl rfl (y_nes rfl rfl) ?_
    refine vc_y rfl rfl (y_pickt rfl rfl) ?_
    refine vc_end ?_
    refine vq_then ?_
    refine vc_keep [(0, _), (2, _), (11, _)] ⟨rfl, rfl, rfl, trivial⟩ ?_
    refine vc_ifs rfl ?_ ?_
    · intro hc11
      try simp only [dn] at hc11
      refine vc_seq ?_
      refine vc_region ?_
      refine vc_y rfl rfl ((by exact y_ldc rfl Tryd.isAgg9 (cell_nth h5 rfl))) ?_
      refine vc_y rfl rfl (y_as rfl) ?_
      refine vc_end ?_
      refine vq_then ?_
      refine vc_keep [(4, _)] ⟨rfl, trivial⟩ ?_
      refine vc_ret ?_
      refine vq_then_ret ?_
      refine vq_ret1 st (.inl rfl) Tryd.results38 (.tmp rfl) ?_
      refine ⟨_, rfl, ?_⟩
      refine ⟨?_, rfl⟩
      unfold renG
      first | (rw [if_pos (by simp_all)]; done) | (rw [if_neg (by simp_all)]; done)
    · intro hc11
      try simp only [dn] at hc11
      refine vc_code_skip ?_
      refine vq_then ?_
      refine vc_keep [(0, _)] ⟨rfl, trivial⟩ ?_
      refine vc_seq ?_
      refine vc_region ?_
      refine vc_y rfl rfl (y_mv rfl) ?_
      refine vc_y rfl rfl (y_as rfl) ?_
      refine vc_end ?_
      refine vq_then ?_
      refine vc_keep [(4, _)] ⟨rfl, trivial⟩ ?_
      refine vc_ret ?_
      refine vq_ret1 st (.inl rfl) Tryd.results38 (.tmp rfl) ?_
      refine ⟨_, rfl, ?_⟩
      refine ⟨?_, rfl⟩
      unfold renG
      first | (rw [if_pos (by simp_all)]; done) | (rw [if_neg (by simp_all)]; done)
  · intro hg8
    try simp only [dn] at hg8
    refine vc_e (e_skip rfl rfl ?_)
    refine vc_e (e_skip rfl rfl ?_)
    refine vc_y rfl rfl (y_pickf rfl rfl) ?_
    refine vc_end ?_
    refine vq_then ?_
    refine vc_keep [(0, _), (2, _), (11, _)] ⟨rfl, rfl, rfl, trivial⟩ ?_
    refine vc_iff rfl ?_
    refine vc_code_skip ?_
    refine vq_then ?_
    refine vc_keep [(0, _)] ⟨rfl, trivial⟩ ?_
    refine vc_seq ?_
    refine vc_region ?_
    refine vc_y rfl rfl (y_mv rfl) ?_
    refine vc_y rfl rfl (y_as rfl) ?_
    refine vc_end ?_
    refine vq_then ?_
    refine vc_keep [(4, _)] ⟨rfl, trivial⟩ ?_
    refine vc_ret ?_
    refine vq_ret1 st (.inl rfl) Tryd.results38 (.tmp rfl) ?_
    refine ⟨_, rfl, ?_⟩
    refine ⟨?_, rfl⟩
    unfold renG
    first | (rw [if_pos (by simp_all)]; done) | (rw [if_neg (by simp_all)]; done)

theorem ren2_any (a : Int) (w : World) : Ret Tryd.prog 39 [.int .i64 a] w fun v w' => v = .int .i64 a ∧ w' = w := by
  refine ret_of [_] Tryd.func39 rfl Tryd.ntmps39 rfl ?_
  have st := St.init w []
  refine vc_seq ?_
  refine vc_region ?_
  refine vc_y rfl rfl (y_as rfl) ?_
  refine vc_end ?_
  refine vq_then ?_
  refine vc_keep [(0, _)] ⟨rfl, trivial⟩ ?_
  refine vc_seq ?_
  refine vc_region ?_
  refine vc_y rfl rfl (y_mv rfl) ?_
  refine vc_y rfl rfl (y_as rfl) ?_
  refine vc_end ?_
  refine vq_then ?_
  refine vc_keep [(2, _)] ⟨rfl, trivial⟩ ?_
  refine vc_ret ?_
  refine vq_ret1 st (.inl rfl) Tryd.results39 (.tmp rfl) ?_
  refine ⟨_, rfl, ?_⟩
  exact ⟨rfl, rfl⟩

def fnsR (fr tn : Wd) (b4 b5 : Nat) : Fns := ⟨renG fr tn, idN, 38, 39, [.pointer (some ⟨b4, 0, none⟩), .pointer (some ⟨b5, 0, none⟩)], [], [b4, b5], fun w => w.heap[b4]? = some (.cells [str fr].toArray 9 (0, 0)) ∧ w.heap[b5]? = some (.cells [str tn].toArray 9 (0, 0))⟩
theorem fnsR_ok (fr tn : Wd) (b4 b5 : Nat) : (fnsR fr tn b4 b5).Ok := ⟨fun s w h => ren1_any fr tn s b4 b5 w h.1 h.2, fun a w _ => ren2_any a w, fun w w' h hk => ⟨by rw [hk b4 (by simp [fnsR])]; exact h.1, by rw [hk b5 (by simp [fnsR])]; exact h.2⟩, Tryd.call38, Tryd.call39⟩
abbrev noPg : List Value := [.slice none 0 0, .slice none 0 0, .slice none 0 0]
/-- what Rename answers -/
def RenV (p : Pg) (fr tn : Wd) (v : Value) (w w' : World) : Prop :=
  (pgOk p = false ∧ v = .tuple #[.agg noPg.toArray, .int .i64 40]) ∨ (pgOk p = true ∧ renOk p tn = false ∧ v = .tuple #[.agg noPg.toArray, .int .i64 2]) ∨
  (pgOk p = true ∧ renOk p tn = true ∧ ∃ (gs gl gt : Option Addr) (gcs gcl gct : Nat) (S : List Nat), v = .tuple #[.agg (pgL (renP p fr tn) gs gl gt gcs gcl gct).toArray, .int .i64 0] ∧ PgQ w' (renP p fr tn) (pgL (renP p fr tn) gs gl gt gcs gcl gct) S ∧ Nw w.heap.size S)

set_option maxHeartbeats 2000000 in
theorem rename_any {n0 : Nat} (p : Pg) (hok : OkP p) (fr tn : Wd) (os ol ot : Option Addr) (cs cl ct : Nat) (w : World) (hSh : DcRow w (· < n0) os p.shared) (hL : DcRow w (· < n0) ol p.locks) (hT : ThRow w (· < n0) ot p.threads) (hn0 : n0 ≤ w.heap.size) (hsg : Sig w) (hlen : (nmsP p).length ≤ 4398046511104) :
    Ret Tryd.prog 14 [.agg (pgL p os ol ot cs cl ct).toArray, str fr, str tn] w fun v w' => RenV p fr tn v w w' ∧ Chg [] w w' := by
  refine ret_of [_, _, _] Tryd.func14 rfl Tryd.ntmps14 rfl ?_
  have st := St.init w []
  obtain ⟨w0, rfl⟩ : ∃ w0, w0 = w := ⟨_, rfl⟩
  refine vc_seq ?_
  refine vc_region ?_
  refine vc_e (e_bx (l := [_, _, _]) st rfl rfl rfl rfl ?_)
  intro b3 w hb3 st
  refine vc_e (e_bx (l := [_]) st rfl rfl rfl rfl ?_)
  intro b4 w hb4 st
  refine vc_e (e_bx (l := [_]) st rfl rfl rfl rfl ?_)
  intro b5 w hb5 st
  refine vc_e (e_al (l := [_, _, _]) st rfl rfl Tryd.zeroValue25 rfl ?_)
  intro b6 w hb6 st
  refine vc_y rfl rfl (y_as rfl) ?_
  refine vc_end ?_
  refine vq_then ?_
  refine vc_keep [(3, _), (4, _), (5, _), (6, _)] ⟨rfl, rfl, rfl, rfl, trivial⟩ ?_
  refine vc_seq ?_
  refine vc_seq ?_
  refine vc_region ?_
  refine vc_y rfl rfl ((by exact y_lda (vs := [_, _, _]) st 3 rfl Tryd.isAgg25 Tryd.sizeOf25 rfl rfl)) ?_
  refine vc_e (e_call [_] rfl rfl Tryd.call18 rfl (right_any p _ _ _ _ _ _ _ (RowC.kept hSh (Same.of_nil st.chg)) (RowC.kept hL (Same.of_nil st.chg)) (hT.kept (Same.of_nil st.chg)) hok (hsg.kept st.chg)) ?_)
  rintro _ w ⟨rfl, cw⟩
  replace st := st.call0 cw
  refine vc_y rfl rfl (y_not rfl) ?_
  refine vc_end ?_
  refine vq_then ?_
  refine vc_keep [(3, _), (4, _), (5, _), (6, _), (11, _)] ⟨rfl, rfl, rfl, rfl, rfl, trivial⟩ ?_
  refine vc_ifs rfl ?_ ?_
  · intro hc11
    try simp only [dn] at hc11
    refine vc_seq ?_
    refine vc_region ?_
    refine vc_y rfl rfl (y_bld (.agg #[_, _, _]) [] rfl (fun w => by simp [Instr.build, go_sem] <;> repeat' constructor)) ?_
    refine vc_e (e_sts (vs := [_, _, _]) st 0 rfl rfl rfl rfl rfl Tryd.sizeOf25 rfl rfl (by first | (right; assumption) | (left; simp)) ?_)
    intro w st; dsimp only [setNth, wr] at st
    refine vc_y rfl rfl (y_as rfl) ?_
    refine vc_end ?_
    refine vq_then ?_
    refine vc_keep [(6, _), (7, _)] ⟨rfl, rfl, trivial⟩ ?_
    refine vc_ret ?_
    refine vq_then_ret ?_
    refine vq_ret2 st (.inl rfl) Tryd.results14 (by exact .cell 0 rfl rfl Tryd.isAgg25 Tryd.sizeOf25) (.tmp rfl) ?_
    refine ⟨_, rfl, ?_⟩
    refine ⟨.inl ⟨by assumption, rfl⟩, st.chg⟩
  · intro hc11
    try simp only [dn] at hc11
    refine vc_code_skip ?_
    refine vq_then ?_
    refine vc_keep [(3, _), (4, _), (5, _), (6, _)] ⟨rfl, rfl, rfl, rfl, trivial⟩ ?_
    refine vc_seq ?_
    refine vc_seq ?_
    refine vc_draw Tryd.mixed [(0, true), (1, false), (2, true), (3, true), (4, true), (6, true), (5, false), (7, false), (8, true)] (fun w => St _ _ _ w) st (by kernel_rfl) (by repeat (first | exact okQ_body | refine okQ_then ?_ | refine okQ_block ?_)) rfl (by kernel_rfl) ?_
    intro w cd; replace st := st.call0 cd; clear cd
    have hS := st
    refine vp_take rfl rfl rfl hS (fun w st => (by exact y_ld st 1 rfl Tryd.isAgg9 rfl rfl)) ?_
    refine vp_do rfl (e_call [_] rfl rfl Tryd.call36 rfl (name_any tn _) ?_)
    rintro _ _ ⟨rfl, rfl⟩
    refine vp_next (by exact st) ?_; intro hS
    refine vp_take rfl rfl rfl hS (fun w st => y_not rfl) ?_
    refine vp_part rfl rfl rfl hS rfl ?_ ?_
    · intro hg16
      try simp only [dn] at hg16
      refine vp_skip rfl rfl rfl hS ?_
      refine vp_skip rfl rfl rfl hS ?_
      refine vp_do rfl (e_skip rfl rfl (vp_next hS (fun hS => ?_)))
      refine vp_do rfl (e_skip rfl rfl (vp_next hS (fun hS => ?_)))
      refine vp_take rfl rfl rfl hS (fun w st => y_pickt rfl rfl) ?_
      refine vp_end ?_
      refine vq_then ?_
      refine vc_keep [(3, _), (4, _), (5, _), (6, _), (21, _)] ⟨rfl, rfl, rfl, rfl, rfl, trivial⟩ ?_
      refine vc_ift rfl ?_
      refine vc_seq ?_
      refine vc_region ?_
      refine vc_y rfl rfl (y_bld (.agg #[_, _, _]) [] rfl (fun w => by simp [Instr.build, go_sem] <;> repeat' constructor)) ?_
      refine vc_e (e_sts (vs := [_, _, _]) st 0 rfl rfl rfl rfl rfl Tryd.sizeOf25 rfl rfl (by first | (right; assumption) | (left; simp)) ?_)
      intro w st; dsimp only [setNth, wr] at st
      refine vc_y rfl rfl (y_as rfl) ?_
      refine vc_end ?_
      refine vq_then ?_
      refine vc_keep [(6, _), (7, _)] ⟨rfl, rfl, trivial⟩ ?_
      refine vc_ret ?_
      refine vq_then_ret ?_
      refine vq_ret2 st (.inl rfl) Tryd.results14 (by exact .cell 0 rfl rfl Tryd.isAgg25 Tryd.sizeOf25) (.tmp rfl) ?_
      refine ⟨_, rfl, ?_⟩
      refine ⟨?_, st.chg⟩
      have hp : pgOk p = true := by assumption
      first
        | (refine .inr (.inl ⟨hp, ?_, rfl⟩); unfold renOk; simp_all; done)
        | (refine .inr (.inr ⟨hp, ?_, gs, gl, gt, gcs, gcl, gct, S, rfl, (st.res (i := 0) rfl).1, hN9⟩); unfold renOk; simp_all; done)
    · intro hg16
      try simp only [dn] at hg16
      refine vp_take rfl rfl rfl hS (fun w st => (by exact y_lda (vs := [_, _, _]) st 3 rfl Tryd.isAgg25 Tryd.sizeOf25 rfl rfl)) ?_
      refine vp_take rfl rfl rfl hS (fun w st => (by exact y_ld st 1 rfl Tryd.isAgg9 rfl rfl)) ?_
      refine vp_do rfl (e_call [_] rfl rfl Tryd.call15 rfl (names_any (S := (· < n0)) p hok _ _ _ _ _ _ _ (fun b hb => Nat.lt_of_lt_of_le hb (Nat.le_trans hn0 st.chg.size)) (RowC.kept hSh (Same.of_nil st.chg)) (RowC.kept hL (Same.of_nil st.chg)) (hT.kept (Same.of_nil st.chg)) hlen) ?_)
      rintro _ w ⟨on, cn, rfl, ho, hc⟩
      have hoN := ho
      replace st := st.call0 hc
      refine vp_next (by exact st) ?_; intro hS
      refine vp_do rfl (e_call [_, _] rfl rfl Tryd.call37 rfl (contains_any _ (namesL p) tn _ _ _ (by have := namesL_len p; omega) hoN) ?_)
      rintro _ _ ⟨rfl, rfl⟩
      refine vp_next (by exact st) ?_; intro hS
      refine vp_take rfl rfl rfl hS (fun w st => y_pickf rfl rfl) ?_
      refine vp_end ?_
      refine vq_then ?_
      refine vc_keep [(3, _), (4, _), (5, _), (6, _), (21, _)] ⟨rfl, rfl, rfl, rfl, rfl, trivial⟩ ?_
      refine vc_ifs rfl ?_ ?_
      · intro hc21
        try simp only [dn] at hc21
        refine vc_seq ?_
        refine vc_region ?_
        refine vc_y rfl rfl (y_bld (.agg #[_, _, _]) [] rfl (fun w => by simp [Instr.build, go_sem] <;> repeat' constructor)) ?_
        refine vc_e (e_sts (vs := [_, _, _]) st 0 rfl rfl rfl rfl rfl Tryd.sizeOf25 rfl rfl (by first | (right; assumption) | (left; simp)) ?_)
        intro w st; dsimp only [setNth, wr] at st
        refine vc_y rfl rfl (y_as rfl) ?_
        refine vc_end ?_
        refine vq_then ?_
        refine vc_keep [(6, _), (7, _)] ⟨rfl, rfl, trivial⟩ ?_
        refine vc_ret ?_
        refine vq_then_ret ?_
        refine vq_ret2 st (.inl rfl) Tryd.results14 (by exact .cell 0 rfl rfl Tryd.isAgg25 Tryd.sizeOf25) (.tmp rfl) ?_
        refine ⟨_, rfl, ?_⟩
        refine ⟨?_, st.chg⟩
        have hp : pgOk p = true := by assumption
        first
          | (refine .inr (.inl ⟨hp, ?_, rfl⟩); unfold renOk; simp_all; done)
          | (refine .inr (.inr ⟨hp, ?_, gs, gl, gt, gcs, gcl, gct, S, rfl, (st.res (i := 0) rfl).1, hN9⟩); unfold renOk; simp_all; done)
      · intro hc21
        try simp only [dn] at hc21
        refine vc_code_skip ?_
        refine vq_then ?_
        refine vc_keep [(3, _), (4, _), (5, _), (6, _)] ⟨rfl, rfl, rfl, rfl, trivial⟩ ?_
        refine vc_seq ?_
        refine vc_region ?_
        refine vc_y rfl rfl (y_mf [] [_, _] rfl rfl) ?_
        refine vc_y rfl rfl (y_as rfl) ?_
        refine vc_end ?_
        refine vq_then ?_
        refine vc_keep [(3, _), (6, _), (8, _)] ⟨rfl, rfl, rfl, trivial⟩ ?_
        refine vc_seq ?_
        refine vc_region ?_
        refine vc_y rfl rfl ((by exact y_lda (vs := [_, _, _]) st 3 rfl Tryd.isAgg25 Tryd.sizeOf25 rfl rfl)) ?_
        refine vc_y rfl rfl (y_mv rfl) ?_
        refine vc_e (e_call [_, _, _] rfl rfl Tryd.call31 rfl (turned_any (fnsR fr tn b4 b5) (fnsR_ok fr tn b4 b5) p hok _ _ _ _ _ _ _ (RowC.kept hSh (Same.of_nil st.chg)) (RowC.kept hL (Same.of_nil st.chg)) (hT.kept (Same.of_nil st.chg)) (Nat.le_trans hn0 st.chg.size) ⟨st.res (i := 2) rfl, st.res (i := 1) rfl⟩ (fun b hb => by simp only [fnsR, List.mem_cons, List.not_mem_nil, or_false] at hb; rcases hb with rfl | rfl; exact st.lt (.tail _ (.tail _ (.head _))) (.head _); exact st.lt (.tail _ (.head _)) (.head _))) ?_)
        rintro _ w ⟨l, S, rfl, hQ, hN, cw⟩
        have hQ2 := hQ
        obtain ⟨gs, gcs, gl, gcl, gt, gct, Sa, Sb, Sc, rfl, -⟩ := hQ2
        have hN9 := hN.le st.chg.size
        replace st := St.pushR (r := .tree S (fun w => PgQ w (renP p fr tn) (pgL (renP p fr tn) gs gl gt gcs gcl gct) S)) st cw (holds_of hQ hQ.lt (fun a b h hk => h.kept hk)) hN.2
        refine vc_e (e_sts (vs := [_, _, _]) st 1 rfl rfl rfl rfl rfl Tryd.sizeOf25 rfl rfl (by first | (right; assumption) | (left; simp)) ?_)
        intro w st; dsimp only [setNth, wr] at st
        refine vc_y rfl rfl (y_as rfl) ?_
        refine vc_end ?_
        refine vq_then ?_
        refine vc_keep [(6, _), (7, _)] ⟨rfl, rfl, trivial⟩ ?_
        refine vc_ret ?_
        refine vq_ret2 st (.inl rfl) Tryd.results14 (by exact .cell 1 rfl rfl Tryd.isAgg25 Tryd.sizeOf25) (.tmp rfl) ?_
        refine ⟨_, rfl, ?_⟩
        refine ⟨?_, st.chg⟩
        have hp : pgOk p = true := by assumption
        first
          | (refine .inr (.inl ⟨hp, ?_, rfl⟩); unfold renOk; simp_all; done)
          | (refine .inr (.inr ⟨hp, ?_, gs, gl, gt, gcs, gcl, gct, S, rfl, (st.res (i := 0) rfl).1, hN9⟩); unfold renOk; simp_all; done)

end Go.Proofs.YtnmhlpnapgojjaaDoor


/- A tree renamed: no program in sight. -/
namespace LexS
open Sx
set_option linter.unusedVariables false
set_option linter.unusedSimpArgs false
theorem rightE_iff {e : Ex} {d : Nat} : rightE e d = true ↔ d ≤ 64 ∧ ((e.k = 1 ∧ 0 ≤ e.wd ∧ e.op = 0 ∧ e.nm = [] ∧ e.kids = []) ∨ (e.k = 2 ∧ isName e.nm = true ∧ e.op = 0 ∧ e.wd = 0 ∧ e.kids = []) ∨
    (e.k = 3 ∧ oneOp e.op = true ∧ e.wd = 0 ∧ e.nm = [] ∧ ∃ x, e.kids = [x] ∧ rightE x (if x.k = 4 then d + 2 else d + 1) = true) ∨
    (e.k = 4 ∧ twoOp e.op = true ∧ e.wd = 0 ∧ e.nm = [] ∧ ∃ x y, e.kids = [x, y] ∧ rightE x (if inn e.op x false = true then d + 1 else d) = true ∧ rightE y (if inn e.op y true = true then d + 1 else d) = true)) := by
  cases e with
  | mk k op wd nm kids a =>
    simp only [Ex.k, Ex.op, Ex.wd, Ex.nm, Ex.kids]
    rcases kids with _ | ⟨x, _ | ⟨y, _ | ⟨z, r⟩⟩⟩ <;>
    · simp only [rightE, Bool.and_eq_true, decide_eq_true_eq]
      refine and_congr_right fun _ => ?_
      by_cases h1 : k = 1
      · subst h1; simp
      by_cases h2 : k = 2
      · subst h2; simp
      by_cases h3 : k = 3
      · subst h3; simp [and_assoc] <;> (try (intros; constructor <;> intro h <;> first | exact h | exact ⟨_, rfl, h⟩ | exact ⟨_, _, rfl, rfl, h⟩ | exact ⟨_, rfl, _, rfl, h⟩ | (obtain ⟨_, rfl, h⟩ := h; exact h) | (obtain ⟨_, _, rfl, rfl, h⟩ := h; exact h) | (obtain ⟨_, rfl, _, rfl, h⟩ := h; exact h)))
      by_cases h4 : k = 4
      · subst h4; simp [and_assoc] <;> (try (intros; constructor <;> intro h <;> first | exact h | exact ⟨_, rfl, h⟩ | exact ⟨_, _, rfl, rfl, h⟩ | exact ⟨_, rfl, _, rfl, h⟩ | (obtain ⟨_, rfl, h⟩ := h; exact h) | (obtain ⟨_, _, rfl, rfl, h⟩ := h; exact h) | (obtain ⟨_, rfl, _, rfl, h⟩ := h; exact h)))
      simp [h1, h2, h3, h4]
theorem rightX_iff {b : Bool} {e : List Ex} : rightX b e = true ↔ (b = true ∧ ∃ x, e = [x] ∧ rightE x 0 = true) ∨ (b = false ∧ e = []) := by
  cases b
  · simp [rightX]
  · rcases e with _ | ⟨x, _ | ⟨y, r⟩⟩ <;> simp [rightX]
section
variable {g : Wd → Wd} {h : Int → Int}
mutual
theorem nmsE_tr : ∀ e : Ex, nmsE (trE g h e) = (nmsE e).map g
  | .mk k op wd nm kids a => by
    simp only [trE, nmsE, nmsEs_tr kids, List.map_append]
    split <;> simp
termination_by structural e => e
theorem nmsEs_tr : ∀ l : List Ex, nmsEs (trEs g h l) = (nmsEs l).map g
  | [] => rfl
  | e :: r => by simp only [trEs, nmsEs, nmsE_tr e, nmsEs_tr r, List.map_append]
termination_by structural l => l
end
mutual
theorem nmsS_tr : ∀ s : Sm, nmsS (trS g h s) = (nmsS s).map g
  | .mk k nm other e body els a => by simp only [trS, nmsS, nmsEs_tr, nmsSs_tr body, nmsSs_tr els, List.map_append, List.map_cons, List.map_nil]
termination_by structural e => e
theorem nmsSs_tr : ∀ l : List Sm, nmsSs (trSs g h l) = (nmsSs l).map g
  | [] => rfl
  | s :: r => by simp only [trSs, nmsSs, nmsS_tr s, nmsSs_tr r, List.map_append]
termination_by structural l => l
end
theorem nmsP_tr (p : Pg) : nmsP (trP g h p) = (nmsP p).map g := by
  have hD : ∀ l : List Dc, (l.map (trD g h)).map (·.nm) = (l.map (·.nm)).map g := fun l => by simp [List.map_map, Function.comp_def, trD]
  have hT : ∀ t : Th, nmsT (trT g h t) = (nmsT t).map g := fun t => by simp only [nmsT, trT, hD, nmsSs_tr, List.map_append, List.map_cons, List.map_nil]
  simp only [nmsP, trP, ← List.map_append]
  rw [hD, List.map_append (f := g)]
  congr 1
  induction p.threads with
  | nil => rfl
  | cons t r ih => simp only [List.map_cons, List.flatMap_cons, ih, hT, List.map_append]
theorem gE_k (e : Ex) : (trE g h e).k = e.k := by cases e; rfl
theorem gE_op (e : Ex) : (trE g h e).op = e.op := by cases e; rfl
theorem gE_inn (op : Int) (x : Ex) (b : Bool) : inn op (trE g h x) b = inn op x b := by unfold inn; rw [gE_k, gE_op]
/-- what stays right -/
def Keeps (g : Wd → Wd) (l : List Wd) : Prop := ∀ s ∈ l, isName s = true → isName (g s) = true
theorem Keeps.mono {l l' : List Wd} (k : Keeps g l) (hl : ∀ s ∈ l', s ∈ l) : Keeps g l' := fun s hs => k s (hl s hs)
theorem rightE_ren (hg : g [] = []) : ∀ (n : Nat) (e : Ex), SizeOf.sizeOf e = n → ∀ d, rightE e d = true → Keeps g (nmsE e) → rightE (trE g h e) d = true := by
  intro n
  refine Nat.strongRecOn n fun n ih e hn d hr hk => ?_
  subst hn
  rw [rightE_iff] at hr ⊢
  have e1 : (trE g h e).k = e.k := by cases e; rfl
  have e2 : (trE g h e).op = e.op := by cases e; rfl
  have e3 : (trE g h e).wd = e.wd := by cases e; rfl
  have e4 : (trE g h e).nm = g e.nm := by cases e; rfl
  have e5 : (trE g h e).kids = trEs g h e.kids := by cases e; rfl
  rw [e1, e2, e3, e4, e5]
  rw [nmsE_eq] at hk
  obtain ⟨hd, hr⟩ := hr
  refine ⟨hd, ?_⟩
  rcases hr with ⟨h1, h2, h3, h4, h5⟩ | ⟨h1, h2, h3, h4, h5⟩ | ⟨h1, h2, h3, h4, x, h5, h6⟩ | ⟨h1, h2, h3, h4, x, y, h5, h6, h7⟩
  · exact .inl ⟨h1, h2, h3, by rw [h4, hg], by rw [h5]; rfl⟩
  · exact .inr (.inl ⟨h1, hk _ (by simp [h1]) h2, h3, h4, by rw [h5]; rfl⟩)
  · refine .inr (.inr (.inl ⟨h1, h2, h3, by rw [h4, hg], trE g h x, by rw [h5]; rfl, ?_⟩))
    rw [gE_k]
    exact ih _ (memE_lt (by simp [h5])) x rfl _ h6 (hk.mono fun s hs => by rw [h5]; simp [nmsEs, hs])
  · refine .inr (.inr (.inr ⟨h1, h2, h3, by rw [h4, hg], trE g h x, trE g h y, by rw [h5]; rfl, ?_, ?_⟩))
    · rw [gE_inn]; exact ih _ (memE_lt (by simp [h5])) x rfl _ h6 (hk.mono fun s hs => by rw [h5]; simp [nmsEs, hs])
    · rw [gE_inn]; exact ih _ (memE_lt (by simp [h5])) y rfl _ h7 (hk.mono fun s hs => by rw [h5]; simp [nmsEs, hs])
theorem rightX_ren (hg : g [] = []) {b : Bool} {l : List Ex} (hr : rightX b l = true) (hk : Keeps g (nmsEs l)) : rightX b (trEs g h l) = true := by
  rw [rightX_iff] at hr ⊢
  rcases hr with ⟨h1, x, rfl, h2⟩ | ⟨h1, rfl⟩
  · exact .inl ⟨h1, trE g h x, rfl, rightE_ren hg _ x rfl 0 h2 (hk.mono fun s hs => by simp [nmsEs, hs])⟩
  · exact .inr ⟨h1, rfl⟩
theorem nmOk_ren (hg : g [] = []) {b : Bool} {s : Wd} (hr : nmOk b s = true) (hk : isName s = true → isName (g s) = true) : nmOk b (g s) = true := by
  unfold nmOk at hr ⊢
  cases b <;> simp_all
theorem gSs_len (l : List Sm) : (trSs g h l).length = l.length := by rw [trSs_map, List.length_map]
mutual
theorem rightS_ren (hg : g [] = []) : ∀ (s : Sm) (d : Nat), rightS s d = true → Keeps g (nmsS s) → rightS (trS g h s) d = true
  | .mk k nm other e body els a, d, hr, hk => by
    simp only [rightS, Bool.and_eq_true] at hr
    simp only [nmsS] at hk
    obtain ⟨⟨⟨⟨⟨⟨⟨⟨h1, h2⟩, h3⟩, h4⟩, h5⟩, h6⟩, h7⟩, h8⟩, h9⟩ := hr
    simp only [trS, rightS, Bool.and_eq_true, gSs_len]
    exact ⟨⟨⟨⟨⟨⟨⟨⟨h1, nmOk_ren hg h2 (hk nm (by simp))⟩, nmOk_ren hg h3 (hk other (by simp))⟩, rightX_ren hg h4 (hk.mono fun s hs => by simp [hs])⟩, h5⟩, h6⟩, h7⟩,
      rightSs_ren hg body _ h8 (hk.mono fun s hs => by simp [hs])⟩, rightSs_ren hg els _ h9 (hk.mono fun s hs => by simp [hs])⟩
termination_by structural s => s
theorem rightSs_ren (hg : g [] = []) : ∀ (l : List Sm) (d : Nat), rightSs l d = true → Keeps g (nmsSs l) → rightSs (trSs g h l) d = true
  | [], d, hr, hk => rfl
  | s :: r, d, hr, hk => by
    simp only [rightSs, Bool.and_eq_true] at hr
    simp only [nmsSs] at hk
    simp only [trSs, rightSs, Bool.and_eq_true]
    exact ⟨rightS_ren hg s d hr.1 (hk.mono fun s hs => by simp [hs]), rightSs_ren hg r d hr.2 (hk.mono fun s hs => by simp [hs])⟩
termination_by structural l => l
end
theorem pgOk_ren (hg : g [] = []) {p : Pg} (hr : pgOk p = true) (hk : Keeps g (nmsP p)) : pgOk (trP g h p) = true := by
  have hD : ∀ (b : Bool) (l : List Dc), l.all (dcOk b) = true → Keeps g (l.map (·.nm)) → (l.map (trD g h)).all (dcOk b) = true := fun b l hl hk => by
    rw [List.all_eq_true] at hl ⊢
    intro x hx
    obtain ⟨y, hy, rfl⟩ := List.mem_map.1 hx
    have h1 := hl y hy
    simp only [dcOk, trD, Bool.and_eq_true] at h1 ⊢
    exact ⟨hk _ (List.mem_map.2 ⟨y, hy, rfl⟩) h1.1, h1.2⟩
  simp only [pgOk, Bool.and_eq_true] at hr ⊢
  obtain ⟨⟨h1, h2⟩, h3⟩ := hr
  refine ⟨⟨hD _ _ h1 (hk.mono fun s hs => ?_), hD _ _ h2 (hk.mono fun s hs => ?_)⟩, ?_⟩
  · rw [nmsP, List.map_append]; exact List.mem_append_left _ (List.mem_append_left _ hs)
  · rw [nmsP, List.map_append]; exact List.mem_append_left _ (List.mem_append_right _ hs)
  · rw [List.all_eq_true] at h3 ⊢
    intro x hx
    obtain ⟨t, ht, rfl⟩ := List.mem_map.1 hx
    have h4 := h3 t ht
    have hkt : Keeps g (nmsT t) := hk.mono fun s hs => by rw [nmsP]; exact List.mem_append_right _ (List.mem_flatMap.2 ⟨t, ht, hs⟩)
    simp only [thOk, trT, Bool.and_eq_true] at h4 ⊢
    exact ⟨⟨hkt _ (by simp [nmsT]) h4.1.1, hD _ _ h4.1.2 (hkt.mono fun s hs => by simp only [nmsT]; exact List.mem_append_left _ (List.mem_append_right _ hs))⟩, rightSs_ren hg _ _ h4.2 (hkt.mono fun s hs => by simp only [nmsT]; exact List.mem_append_right _ hs)⟩
end
end LexS


/- A tree renamed there and back: no program in sight. -/
namespace LexS
open Sx
set_option linter.unusedVariables false
set_option linter.unusedSimpArgs false
section
variable {g : Wd → Wd}
/-- what stays as it is -/
def Fixes (g : Wd → Wd) (l : List Wd) : Prop := ∀ s ∈ l, g s = s
theorem Fixes.mono {l l' : List Wd} (k : Fixes g l) (hl : ∀ s ∈ l', s ∈ l) : Fixes g l' := fun s hs => k s (hl s hs)
theorem map_id_of {α : Type} {f : α → α} {l : List α} (h : ∀ x ∈ l, f x = x) : l.map f = l := by
  induction l with
  | nil => rfl
  | cons x r ih => rw [List.map_cons, h x (by simp), ih fun y hy => h y (by simp [hy])]
theorem ex_ext (e : Ex) {nm : Wd} {kids : List Ex} (h1 : nm = e.nm) (h2 : kids = e.kids) : Ex.mk e.k e.op e.wd nm kids e.a = e := by cases e; subst h1; subst h2; rfl
theorem fixE (hg : g [] = []) : ∀ (n : Nat) (e : Ex), SizeOf.sizeOf e = n → ∀ d, rightE e d = true → Fixes g (nmsE e) → trE g (fun a => a) e = e := by
  intro n
  refine Nat.strongRecOn n fun n ih e hn d hr hk => ?_
  subst hn
  rw [rightE_iff] at hr
  rw [nmsE_eq] at hk
  rw [trE_eq]
  obtain ⟨hd, hr⟩ := hr
  rcases hr with ⟨h1, h2, h3, h4, h5⟩ | ⟨h1, h2, h3, h4, h5⟩ | ⟨h1, h2, h3, h4, x, h5, h6⟩ | ⟨h1, h2, h3, h4, x, y, h5, h6, h7⟩
  · exact ex_ext e (by rw [h4, hg]) (by rw [h5]; rfl)
  · exact ex_ext e (hk _ (by simp [h1])) (by rw [h5]; rfl)
  · refine ex_ext e (by rw [h4, hg]) ?_
    rw [h5, trEs_map]
    refine map_id_of fun z hz => ?_
    simp at hz; subst hz
    exact ih _ (memE_lt (by simp [h5])) z rfl _ h6 (hk.mono fun s hs => by rw [h5]; simp [nmsEs, hs])
  · refine ex_ext e (by rw [h4, hg]) ?_
    rw [h5, trEs_map]
    refine map_id_of fun z hz => ?_
    simp at hz
    rcases hz with rfl | rfl
    · exact ih _ (memE_lt (by simp [h5])) z rfl _ h6 (hk.mono fun s hs => by rw [h5]; simp [nmsEs, hs])
    · exact ih _ (memE_lt (by simp [h5])) z rfl _ h7 (hk.mono fun s hs => by rw [h5]; simp [nmsEs, hs])
theorem fixX (hg : g [] = []) {b : Bool} {l : List Ex} (hr : rightX b l = true) (hk : Fixes g (nmsEs l)) : trEs g (fun a => a) l = l := by
  rw [rightX_iff] at hr
  rcases hr with ⟨h1, x, rfl, h2⟩ | ⟨h1, rfl⟩
  · rw [trEs_map, List.map_cons, fixE hg _ x rfl 0 h2 (hk.mono fun s hs => by simp [nmsEs, hs])]; rfl
  · rfl
mutual
theorem fixS (hg : g [] = []) : ∀ (s : Sm) (d : Nat), rightS s d = true → Fixes g (nmsS s) → trS g (fun a => a) s = s
  | .mk k nm other e body els a, d, hr, hk => by
    simp only [rightS, Bool.and_eq_true] at hr
    simp only [nmsS] at hk
    obtain ⟨⟨⟨⟨⟨⟨⟨⟨h1, h2⟩, h3⟩, h4⟩, h5⟩, h6⟩, h7⟩, h8⟩, h9⟩ := hr
    simp only [trS, fixX hg h4 (hk.mono fun s hs => by simp [hs]), hk nm (by simp), hk other (by simp), fixSs hg body _ h8 (hk.mono fun s hs => by simp [hs]), fixSs hg els _ h9 (hk.mono fun s hs => by simp [hs])]
termination_by structural s => s
theorem fixSs (hg : g [] = []) : ∀ (l : List Sm) (d : Nat), rightSs l d = true → Fixes g (nmsSs l) → trSs g (fun a => a) l = l
  | [], d, hr, hk => rfl
  | s :: r, d, hr, hk => by
    simp only [rightSs, Bool.and_eq_true] at hr
    simp only [nmsSs] at hk
    simp only [trSs, fixS hg s d hr.1 (hk.mono fun s hs => by simp [hs]), fixSs hg r d hr.2 (hk.mono fun s hs => by simp [hs])]
termination_by structural l => l
end
theorem sub1 {p : Pg} : ∀ s ∈ p.shared.map (·.nm), s ∈ nmsP p := fun s hs => by rw [nmsP, List.map_append]; exact List.mem_append_left _ (List.mem_append_left _ hs)
theorem sub2 {p : Pg} : ∀ s ∈ p.locks.map (·.nm), s ∈ nmsP p := fun s hs => by rw [nmsP, List.map_append]; exact List.mem_append_left _ (List.mem_append_right _ hs)
theorem sub3 {p : Pg} {t : Th} (ht : t ∈ p.threads) : ∀ s ∈ nmsT t, s ∈ nmsP p := fun s hs => by rw [nmsP]; exact List.mem_append_right _ (List.mem_flatMap.2 ⟨t, ht, hs⟩)
theorem subL {t : Th} : ∀ s ∈ t.locals.map (·.nm), s ∈ nmsT t := fun s hs => by simp only [nmsT]; exact List.mem_append_left _ (List.mem_append_right _ hs)
theorem subB {t : Th} : ∀ s ∈ nmsSs t.body, s ∈ nmsT t := fun s hs => by simp only [nmsT]; exact List.mem_append_right _ hs
theorem fixP (hg : g [] = []) {p : Pg} (hr : pgOk p = true) (hk : Fixes g (nmsP p)) : trP g (fun a => a) p = p := by
  have hD : ∀ l : List Dc, Fixes g (l.map (·.nm)) → l.map (trD g fun a => a) = l := fun l hl => map_id_of fun x hx => by
    have := hl x.nm (List.mem_map.2 ⟨x, hx, rfl⟩)
    cases x; simp only [trD] at *; rw [this]
  simp only [pgOk, Bool.and_eq_true] at hr
  have h3 := hr.2
  rw [List.all_eq_true] at h3
  have hT : p.threads.map (trT g fun a => a) = p.threads := map_id_of fun t ht => by
    have h4 := h3 t ht
    simp only [thOk, Bool.and_eq_true] at h4
    have hkt := hk.mono (sub3 ht)
    have e1 := hkt t.nm (by simp [nmsT])
    have e2 := hD t.locals (hkt.mono subL)
    have e3 := fixSs hg _ _ h4.2 (hkt.mono subB)
    cases t; simp only [trT] at *; rw [e1, e2, e3]
  have e1 := hD p.shared (hk.mono sub1)
  have e2 := hD p.locks (hk.mono sub2)
  cases p; simp only [trP] at *; rw [e1, e2, hT]
end
/-! ### the same trees have the same names -/
theorem zipA_flat {α : Type} {f : α → α → Bool} {k : α → List Wd} : ∀ {a b : List α}, (∀ x ∈ a, ∀ y, f x y = true → k x = k y) → zipA f a b = true → a.flatMap k = b.flatMap k
  | [], [], _, _ => rfl
  | [], y :: s, _, h => by simp [zipA] at h
  | x :: r, [], _, h => by simp [zipA] at h
  | x :: r, y :: s, hf, h => by
    simp only [zipA, Bool.and_eq_true] at h
    rw [List.flatMap_cons, List.flatMap_cons, hf x (by simp) y h.1, zipA_flat (fun z hz => hf z (by simp [hz])) h.2]
theorem same_nmsE : ∀ (n : Nat) (e : Ex), SizeOf.sizeOf e = n → ∀ y, sameE e y = true → nmsE e = nmsE y := by
  intro n
  refine Nat.strongRecOn n fun n ih e hn y hs => ?_
  subst hn
  rw [sameE_eq] at hs
  simp only [Bool.and_eq_true, decide_eq_true_eq] at hs
  rw [nmsE_eq, nmsE_eq, nmsEs_flat, nmsEs_flat, hs.1.1, hs.1.2.2.2, zipA_flat (fun x hx z hz => ih _ (memE_lt hx) x rfl z hz) hs.2]
theorem same_nmsS : ∀ (n : Nat) (s : Sm), SizeOf.sizeOf s = n → ∀ y, sameS s y = true → nmsS s = nmsS y := by
  intro n
  refine Nat.strongRecOn n fun n ih s hn y hs => ?_
  subst hn
  rw [sameS_eq] at hs
  simp only [Bool.and_eq_true, decide_eq_true_eq] at hs
  obtain ⟨⟨⟨⟨h1, h2, h3⟩, h4⟩, h5⟩, h6⟩ := hs
  rw [nmsS_eq, nmsS_eq, nmsEs_flat, nmsEs_flat, nmsSs_flat, nmsSs_flat, nmsSs_flat, nmsSs_flat, h2, h3, zipA_flat (fun x hx z hz => same_nmsE _ x rfl z hz) h4,
    zipA_flat (fun x hx z hz => ih _ (memS_lt (.inl hx)) x rfl z hz) h5, zipA_flat (fun x hx z hz => ih _ (memS_lt (.inr hx)) x rfl z hz) h6]
theorem same_nmsP {p q : Pg} (hs : sameP p q = true) : nmsP p = nmsP q := by
  unfold sameP at hs
  simp only [Bool.and_eq_true] at hs
  obtain ⟨⟨h1, h2⟩, h3⟩ := hs
  have hD : ∀ {a b : List Dc}, zipA sameD a b = true → a.map (·.nm) = b.map (·.nm) := fun {a b} h => by
    have := zipA_flat (k := fun x : Dc => [x.nm]) (fun x _ y hxy => by simp only [sameD, decide_eq_true_eq] at hxy; rw [hxy.1]) h
    rw [List.map_eq_flatMap, List.map_eq_flatMap]; exact this
  rw [nmsP, nmsP, List.map_append, List.map_append, hD h1, hD h2]
  congr 1
  refine zipA_flat (fun t _ y hy => ?_) h3
  unfold sameT at hy
  simp only [Bool.and_eq_true, decide_eq_true_eq] at hy
  rw [nmsT, nmsT, hy.1.1, hD hy.1.2, nmsSs_flat, nmsSs_flat, zipA_flat (fun x _ z hz => same_nmsS _ x rfl z hz) hy.2]
/-! ### the names of a right tree are names -/
theorem named_E : ∀ (n : Nat) (e : Ex), SizeOf.sizeOf e = n → ∀ d, rightE e d = true → ∀ s ∈ nmsE e, isName s = true := by
  intro n
  refine Nat.strongRecOn n fun n ih e hn d hr s hs => ?_
  subst hn
  rw [rightE_iff] at hr
  rw [nmsE_eq] at hs
  obtain ⟨hd, hr⟩ := hr
  rcases hr with ⟨h1, h2, h3, h4, h5⟩ | ⟨h1, h2, h3, h4, h5⟩ | ⟨h1, h2, h3, h4, x, h5, h6⟩ | ⟨h1, h2, h3, h4, x, y, h5, h6, h7⟩
  · rw [h1, h5] at hs; simp [nmsEs] at hs
  · rw [h1, h5] at hs; simp [nmsEs] at hs; rw [hs]; exact h2
  · rw [h1, h5] at hs; simp [nmsEs] at hs; exact ih _ (memE_lt (by simp [h5])) x rfl _ h6 s hs
  · rw [h1, h5] at hs; simp [nmsEs] at hs
    rcases hs with hs | hs
    · exact ih _ (memE_lt (by simp [h5])) x rfl _ h6 s hs
    · exact ih _ (memE_lt (by simp [h5])) y rfl _ h7 s hs
theorem named_X {b : Bool} {l : List Ex} (hr : rightX b l = true) : ∀ s ∈ nmsEs l, isName s = true := by
  rw [rightX_iff] at hr
  rcases hr with ⟨h1, x, rfl, h2⟩ | ⟨h1, rfl⟩
  · intro s hs; simp [nmsEs] at hs; exact named_E _ x rfl 0 h2 s hs
  · intro s hs; simp [nmsEs] at hs
theorem named_nm {b : Bool} {s : Wd} (hr : nmOk b s = true) (h0 : s ≠ []) : isName s = true := by
  unfold nmOk at hr; cases b <;> simp_all
mutual
theorem named_S : ∀ (s : Sm) (d : Nat), rightS s d = true → ∀ x ∈ nmsS s, x ≠ [] → isName x = true
  | .mk k nm other e body els a, d, hr, x, hx, h0 => by
    simp only [rightS, Bool.and_eq_true] at hr
    obtain ⟨⟨⟨⟨⟨⟨⟨⟨h1, h2⟩, h3⟩, h4⟩, h5⟩, h6⟩, h7⟩, h8⟩, h9⟩ := hr
    simp only [nmsS, List.mem_append, List.mem_cons, List.not_mem_nil, or_false] at hx
    rcases hx with (((rfl | rfl) | hx) | hx) | hx
    · exact named_nm h2 h0
    · exact named_nm h3 h0
    · exact named_X h4 x hx
    · exact named_Ss body _ h8 x hx h0
    · exact named_Ss els _ h9 x hx h0
termination_by structural s => s
theorem named_Ss : ∀ (l : List Sm) (d : Nat), rightSs l d = true → ∀ x ∈ nmsSs l, x ≠ [] → isName x = true
  | [], d, hr, x, hx, h0 => by simp [nmsSs] at hx
  | s :: r, d, hr, x, hx, h0 => by
    simp only [rightSs, Bool.and_eq_true] at hr
    simp only [nmsSs, List.mem_append] at hx
    rcases hx with hx | hx
    · exact named_S s d hr.1 x hx h0
    · exact named_Ss r d hr.2 x hx h0
termination_by structural l => l
end
theorem named_P {p : Pg} (hr : pgOk p = true) : ∀ x ∈ nmsP p, x ≠ [] → isName x = true := by
  have hD : ∀ {b : Bool} {l : List Dc}, l.all (dcOk b) = true → ∀ x ∈ l.map (·.nm), isName x = true := fun {b l} hl x hx => by
    rw [List.all_eq_true] at hl
    obtain ⟨y, hy, rfl⟩ := List.mem_map.1 hx
    have := hl y hy
    simp only [dcOk, Bool.and_eq_true] at this
    exact this.1
  simp only [pgOk, Bool.and_eq_true] at hr
  obtain ⟨⟨h1, h2⟩, h3⟩ := hr
  rw [List.all_eq_true] at h3
  intro x hx h0
  simp only [nmsP, List.map_append, List.mem_append, List.mem_flatMap] at hx
  rcases hx with (hx | hx) | ⟨t, ht, hx⟩
  · exact hD h1 x hx
  · exact hD h2 x hx
  · have h4 := h3 t ht
    simp only [thOk, Bool.and_eq_true] at h4
    simp only [nmsT, List.mem_append, List.mem_singleton] at hx
    rcases hx with (rfl | hx) | hx
    · exact h4.1.1
    · exact hD h4.1.2 x hx
    · exact named_Ss _ _ h4.2 x hx h0
end LexS


namespace Go.Proofs.YtnmhlpnapgojjaaDoor
open Go.RowKit Sx LexS
set_option linter.unusedVariables false
set_option linter.unusedSimpArgs false
section
variable {p : Pg} {fr tn : Wd}
theorem renG_nil : renG fr tn [] = [] := by unfold renG; rw [if_neg (by simp)]
theorem renOk_inv (h : renOk p tn = true) : isName tn = true ∧ tn ≠ [] ∧ tn ∉ namesL p := by
  unfold renOk at h
  simp only [Bool.and_eq_true, Bool.not_eq_true', decide_eq_false_iff_not] at h
  exact ⟨h.1, (fun (e : tn = []) => by have := h.1; rw [e, isName_nil rfl] at this; cases this), h.2⟩
theorem notin (h : renOk p tn = true) : tn ∉ nmsP p := fun hm => (renOk_inv h).2.2 (mem_namesL.2 ⟨hm, (renOk_inv h).2.1⟩)
theorem ren_names (p : Pg) : nmsP (renP p fr tn) = (nmsP p).map (renG fr tn) := nmsP_tr p
theorem ren_right (hp : pgOk p = true) (h : renOk p tn = true) : pgOk (renP p fr tn) = true :=
  pgOk_ren renG_nil hp fun s hs hn => by unfold renG; split; exact (renOk_inv h).1; exact hn
theorem renG_ne (h : renOk p tn = true) {s : Wd} : renG fr tn s ≠ [] ↔ s ≠ [] := by
  unfold renG; split
  · rename_i hs; exact ⟨fun _ => hs.2, fun _ => (renOk_inv h).2.1⟩
  · exact Iff.rfl
theorem renG_inj (h : renOk p tn = true) {s t : Wd} (hs : s ∈ nmsP p) (ht : t ∈ nmsP p) (e : renG fr tn s = renG fr tn t) : s = t := by
  have hn := notin h
  unfold renG at e
  split at e <;> split at e
  · rename_i h1 h2; rw [h1.1, h2.1]
  · exact absurd (e ▸ ht) hn
  · exact absurd (e ▸ hs) hn
  · exact e
theorem nodup_map {α β : Type} {f : α → β} {l : List α} (hn : l.Nodup) (hf : ∀ x ∈ l, ∀ y ∈ l, f x = f y → x = y) : (l.map f).Nodup := by
  induction l with
  | nil => simp
  | cons x r ih =>
    rw [List.nodup_cons] at hn
    rw [List.map_cons, List.nodup_cons]
    refine ⟨fun hm => ?_, ih hn.2 fun y hy z hz => hf y (by simp [hy]) z (by simp [hz])⟩
    obtain ⟨y, hy, e⟩ := List.mem_map.1 hm
    have := hf y (by simp [hy]) x (by simp) e
    exact hn.1 (this ▸ hy)
theorem ren_len (h : renOk p tn = true) : (namesL (renP p fr tn)).length = (namesL p).length := by
  have hperm : (namesL (renP p fr tn)).Perm ((namesL p).map (renG fr tn)) := by
    refine (List.perm_ext_iff_of_nodup namesL_nodup (nodup_map namesL_nodup fun x hx y hy e => renG_inj h (mem_namesL.1 hx).1 (mem_namesL.1 hy).1 e)).2 fun x => ?_
    rw [mem_namesL, ren_names, List.mem_map, List.mem_map]
    constructor
    · rintro ⟨⟨s, hs, rfl⟩, h0⟩
      exact ⟨s, mem_namesL.2 ⟨hs, (renG_ne h).1 h0⟩, rfl⟩
    · rintro ⟨s, hs, rfl⟩
      exact ⟨⟨s, (mem_namesL.1 hs).1, rfl⟩, (renG_ne h).2 (mem_namesL.1 hs).2⟩
  rw [hperm.length_eq, List.length_map]
/-- a name that is not there changes nothing -/
theorem ren_none (hp : pgOk p = true) (hf : fr ∉ namesL p) : renP p fr tn = p :=
  fixP renG_nil hp fun s hs => by
    unfold renG; rw [if_neg]
    rintro ⟨rfl, h0⟩
    exact hf (mem_namesL.2 ⟨hs, h0⟩)
theorem fr_name (hp : pgOk p = true) (hf : fr ∈ namesL p) : isName fr = true := named_P hp fr (mem_namesL.1 hf).1 (mem_namesL.1 hf).2
theorem ren_back (hp : pgOk p = true) (h : renOk p tn = true) (hf : fr ∈ namesL p) : renOk (renP p fr tn) fr = true := by
  unfold renOk
  rw [fr_name hp hf, Bool.true_and, Bool.not_eq_true', decide_eq_false_iff_not, mem_namesL, ren_names, List.mem_map]
  rintro ⟨⟨s, hs, e⟩, h0⟩
  have hn := notin h
  unfold renG at e
  split at e
  · exact hn (e ▸ (mem_namesL.1 hf).1)
  · rename_i h1; exact h1 ⟨e, by rw [e]; exact h0⟩
theorem ren_there (hp : pgOk p = true) (h : renOk p tn = true) (hf : fr ∈ namesL p) : renP (renP p fr tn) tn fr = p := by
  show trP (renG tn fr) idN (trP (renG fr tn) idN p) = p
  rw [trP_trP]
  refine fixP (by rw [renG_nil, renG_nil]) hp fun s hs => ?_
  have hn := notin h
  show renG tn fr (renG fr tn s) = s
  unfold renG
  by_cases h1 : s = fr ∧ s ≠ []
  · rw [if_pos h1, if_pos ⟨rfl, (renOk_inv h).2.1⟩, h1.1]
  · rw [if_neg h1, if_neg]
    rintro ⟨rfl, -⟩
    exact hn hs
theorem ren_other (h : renOk p tn = true) (hf : fr ∈ namesL p) : sameP p (renP p fr tn) = false := by
  rw [Bool.eq_false_iff]
  intro hs
  have e := same_nmsP hs
  rw [ren_names] at e
  have hm := (mem_namesL.1 hf).1
  have hg : renG fr tn fr = tn := by unfold renG; rw [if_pos ⟨rfl, (mem_namesL.1 hf).2⟩]
  have : tn ∈ nmsP p := by rw [e]; exact List.mem_map.2 ⟨fr, hm, hg⟩
  exact notin h this
/-- the names rise -/
theorem names_rise {i : Nat} {x y : Wd} (hx : (namesL p)[i]? = some x) (hy : (namesL p)[i + 1]? = some y) : x < y := by
  have hle : (namesL p).Pairwise (fun a b => decide (a ≤ b) = true) := List.pairwise_mergeSort (fun a b c h1 h2 => by simp only [decide_eq_true_eq] at *; exact List.le_trans h1 h2) (fun a b => by simp only [Bool.or_eq_true, decide_eq_true_eq]; exact List.le_total a b) _
  obtain ⟨h1, e1⟩ := List.getElem?_eq_some_iff.1 hx
  obtain ⟨h2, e2⟩ := List.getElem?_eq_some_iff.1 hy
  have h3 := (List.pairwise_iff_getElem.1 hle) i (i + 1) h1 h2 (by omega)
  have h4 := (List.pairwise_iff_getElem.1 (namesL_nodup (p := p))) i (i + 1) h1 h2 (by omega)
  simp only [decide_eq_true_eq] at h3
  rw [e1, e2] at h3 h4
  exact Classical.byContradiction fun hn => h4 (List.le_antisymm h3 (List.not_lt.1 hn))
end
end Go.Proofs.YtnmhlpnapgojjaaDoor

