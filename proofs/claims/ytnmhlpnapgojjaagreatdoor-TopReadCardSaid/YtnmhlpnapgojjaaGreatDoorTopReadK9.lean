/- A part of the proof: contracts of functions and plain laws; each theorem says its own conditions. -/
import Derived.Test.YtnmhlpnapgojjaaGreatDoorRows
import Derived.Test.YtnmhlpnapgojjaaGreatDoorTopReadK2
import Derived.Test.YtnmhlpnapgojjaaGreatDoorTopReadK8
import Derived.Test.YtnmhlpnapgojjaaGreatDoorTopReadK1
import Derived.Test.YtnmhlpnapgojjaaGreatDoorTopReadK3
import Derived.Test.YtnmhlpnapgojjaaGreatDoorTopReadK7
set_option linter.unusedVariables false
set_option linter.unusedSimpArgs false
namespace Go.Proofs.YtnmhlpnapgojjaaGreatDoor
open Go.RowKit Sx LexS _root_.Go.Proofs.Tryz
def t1 (e : Env) (x : Th) : Th := x.setNm (e.g x.nm)
def t2 (e : Env) (x : Th) : Th := (t1 e x).setAt (e.h x.a)
def t3 (e : Env) (x : Th) : Th := (t2 e x).setLocals (x.locals.map (trD e.g e.h))
/-- what a tree is turned by, as a caller has it -/
structure Fns where
 g : List UInt8 → List UInt8
 h : Int → Int
 fn : Nat
 fa : Nat
 cn : List Value
 ca : List Value
 E : List Nat
 ψ : World → Prop
structure Fns.Ok (f : Fns) : Prop where
 nm : ∀ s w, f.ψ w → Ret Tryz.prog f.fn ([] ++ [str s] ++ f.cn) w fun v w' => v = str (f.g s) ∧ w' = w
 at_ : ∀ a w, f.ψ w → Ret Tryz.prog f.fa ([] ++ [.int .i64 a] ++ f.ca) w fun v w' => v = .int .i64 (f.h a) ∧ w' = w
 loc : ∀ w w', f.ψ w → (∀ b ∈ f.E, w'.heap[b]? = w.heap[b]?) → f.ψ w'
 calln : ∀ (xs : Array Value) w, (callFunc f.fn xs).run Tryz.prog w = .ok (.enter f.fn xs) w
 calla : ∀ (xs : Array Value) w, (callFunc f.fa xs).run Tryz.prog w = .ok (.enter f.fa xs) w
def Fns.env (f : Fns) (bn ba be bs : Nat) : Env := ⟨f.g, f.h, f.fn, f.fa, f.cn, f.ca, bn, ba, be, bs, bn :: ba :: be :: bs :: f.E, f.ψ⟩
theorem Fns.Ok.env {f : Fns} (ok : f.Ok) (bn ba be bs : Nat) : (f.env bn ba be bs).Ok :=
 ⟨ok.nm, ok.at_, fun w w' h hk => ok.loc w w' h fun b hb => hk b (by simp [Fns.env, hb]), by simp [Fns.env], by simp [Fns.env], by simp [Fns.env], by simp [Fns.env], ok.calln, ok.calla⟩

set_option maxHeartbeats 4000000 in
theorem turned_any (f : Fns) (ok : f.Ok) {n0 : Nat} (p : Pg) (hok : OkP p) (os ol ot : Option Addr) (cs cl ct : Nat) (w : World) (hSh : DcRow w (· < n0) os p.shared) (hL : DcRow w (· < n0) ol p.locks) (hT : ThRow w (· < n0) ot p.threads) (hn0 : n0 ≤ w.heap.size) (hψ0 : f.ψ w) (hE0 : ∀ b ∈ f.E, b < w.heap.size) :
    Ret Tryz.prog 55 [.agg (pgL p os ol ot cs cl ct).toArray, .func (.func f.fn) #[] f.cn.toArray, .func (.func f.fa) #[] f.ca.toArray] w fun v w' => ∃ l S, v = .agg l.toArray ∧ PgQ w' (trP f.g f.h p) l S ∧ Nw w.heap.size S ∧ Chg [] w w' := by
 refine ret_of [_, _, _] func55 rfl ntmps55 rfl ?_
 have st := St.init w []
 obtain ⟨w0, rfl⟩ : ∃ w0, w0 = w := ⟨_, rfl⟩
 have hn1 := hok.1.1
 have hn2 := hok.2.1.1
 have hn3 := hok.2.2.1
 have hψ : ∀ {w : World}, Chg [] w0 w → f.ψ w := fun c => ok.loc _ _ hψ0 fun b hb => c.block b (hE0 b hb) (by simp)
 refine sr ?_
 refine vc_e (e_bx (l := [_, _, _]) st rfl rfl rfl rfl ?_)
 intro b3 w hb3 st
 refine vc_e (e_bx (l := [_]) st rfl rfl rfl rfl ?_)
 intro b4 w hb4 st
 refine vc_e (e_bx (l := [_]) st rfl rfl rfl rfl ?_)
 intro b5 w hb5 st
 refine vc_e (e_al (l := [_, _, _]) st rfl rfl zeroValue26 rfl ?_)
 intro b6 w hb6 st
 refine et (vk4 3 4 5 6 (sr ?_))
 refine yla st 3 [_, _, _] isAgg26 sizeOf26 ?_
 refine vc_e (e_call [_] rfl rfl call117 rfl (pcopyP_any p hok _ _ _ _ _ _ _ (RowC.kept hSh st.sm) (RowC.kept hL st.sm) (hT.kept st.sm) (Nat.le_trans hn0 st.chg.size)) ?_)
 rintro _ w ⟨l, S, rfl, hQ, hN, cw⟩
 have hN := hN
 have hN0 := hN.le st.chg.size
 have hQ2 := hQ
 obtain ⟨os1, cs1, ol1, cl1, ot1, ct1, Ss, Sl, Stt, rfl, q1, q2, q3, rfl⟩ := hQ2
 replace st := St.pushR (r := .tree (Ss ++ (Sl ++ Stt)) (fun _ => True)) st cw (holds_of trivial hQ.lt (fun _ _ _ _ => trivial)) hN.2
 replace st := st.split (φ := fun w => DcRQ w os1 cs1 p.shared Ss) (ψ := fun _ => True) hN0.1 q1 trivial loc_dc (loc_of fun _ _ _ _ => trivial)
 replace st := (st.pick [1, 0, 2, 3, 4, 5] rfl (by decide)).split (φ := fun w => DcRQ w ol1 cl1 p.locks Sl) (ψ := fun w => ThRQ w ot1 ct1 p.threads Stt) hN0.right.1 q2 q3 loc_dc loc_th
 replace st := st.pick [1, 2, 0, 3, 4, 5, 6] rfl (by decide)
 have hN1 := hN0.left
 have hN2 := hN0.right.left
 have hN3 := hN0.right.right
 have hd12 := hN0.ne
 have hd23 := hN0.right.ne
 refine vc_e (e_al (l := [_, _, _]) st rfl rfl zeroValue26 rfl ?_)
 intro b7 w hb7 st
 refine vc_e (ests st 0 [_, _, _] sizeOf26 ?_)
 intro w st; dsimp only [setNth, wr] at st
 refine et (vk4 4 5 6 7 (sr ?_))
 refine vy (y_mf [] [_, _] rfl rfl) ?_
 refine ya ?_
 refine et (vk5 4 5 6 7 8 (sr ?_))
 refine vc_e (e_al (l := [_]) st rfl rfl zeroValue102 rfl ?_)
 intro b9 w hb9 st
 refine et (vk6 4 5 6 7 8 9 (sr ?_))
 refine vy (y_mf [] [_, _, _] rfl rfl) ?_
 refine vc_e (est st 0 sizeOf102 ?_)
 intro w st; dsimp only [setNth, wr] at st
 refine et (vk6 4 5 6 7 8 9 (sr ?_))
 refine vc_e (e_al (l := [_]) st rfl rfl zeroValue103 rfl ?_)
 intro b10 w hb10 st
 refine et (vk7 4 5 6 7 8 9 10 (sr ?_))
 refine vy (y_mf [] [_, _, _, _] rfl rfl) ?_
 refine vc_e (est st 0 sizeOf103 ?_)
 intro w st; dsimp only [setNth, wr] at st
 refine et (vk6 4 5 6 7 8 10 (sr ?_))
 have hok9 := ok.env b4 b5 b9 b10
 refine ym ?_
 refine vy (y_fa0 rfl underlying26 rfl rfl sizeOf23 rfl) ?_
 refine yl st 2 isAgg23 ?_
 refine vc_e (e_callv [_] rfl rfl rfl call118 rfl (dl_any (f.env b4 b5 b9 b10) hok9 p.shared hn1 os1 cs1 Ss _ (st.res (i := 4) rfl).1 hN1.1 ⟨st.res (i := 8) rfl, st.res (i := 7) rfl, hψ st.chg⟩ (fun k hk => by
     simp only [Fns.env, List.mem_cons] at hk
     rcases hk with rfl | rfl | rfl | rfl | h
     · exact st.lt (mem_nth (i := 8) rfl) (.head _)
     · exact st.lt (mem_nth (i := 7) rfl) (.head _)
     · exact st.lt (mem_nth (i := 1) rfl) (.head _)
     · exact st.lt (mem_nth (i := 0) rfl) (.head _)
     · exact Nat.lt_of_lt_of_le (hE0 k h) st.chg.size) (fun k hk hk' => by
     simp only [Fns.env, List.mem_cons] at hk'
     rcases hk' with rfl | rfl | rfl | rfl | h
     · exact st.ne (i := 4) (j := 8) (by decide) rfl rfl _ (hk) (.head _)
     · exact st.ne (i := 4) (j := 7) (by decide) rfl rfl _ (hk) (.head _)
     · exact st.ne (i := 4) (j := 1) (by decide) rfl rfl _ (hk) (.head _)
     · exact st.ne (i := 4) (j := 0) (by decide) rfl rfl _ (hk) (.head _)
     · have := hE0 k h; have := hN1.2 k hk; omega)) ?_)
 rintro _ w ⟨rfl, hq, hc⟩
 replace st := st.withinI (i := 4) (fun w => DcRQ w os1 cs1 (p.shared.map (trD f.g f.h)) Ss) rfl hc (fun k hk => hk) (fun k hk => .inr (hN1.2 k hk)) hq loc_dc
 dsimp only [setNth] at st
 refine et (vk6 4 5 6 7 8 10 (sr ?_))
 refine ym ?_
 refine yfz 1 underlying26 sizeOf23 ?_
 refine yl st 2 isAgg23 ?_
 refine vc_e (e_callv [_] rfl rfl rfl call118 rfl (dl_any (f.env b4 b5 b9 b10) hok9 p.locks hn2 ol1 cl1 Sl _ (st.res (i := 5) rfl).1 hN2.1 ⟨st.res (i := 8) rfl, st.res (i := 7) rfl, hψ st.chg⟩ (fun k hk => by
     simp only [Fns.env, List.mem_cons] at hk
     rcases hk with rfl | rfl | rfl | rfl | h
     · exact st.lt (mem_nth (i := 8) rfl) (.head _)
     · exact st.lt (mem_nth (i := 7) rfl) (.head _)
     · exact st.lt (mem_nth (i := 1) rfl) (.head _)
     · exact st.lt (mem_nth (i := 0) rfl) (.head _)
     · exact Nat.lt_of_lt_of_le (hE0 k h) st.chg.size) (fun k hk hk' => by
     simp only [Fns.env, List.mem_cons] at hk'
     rcases hk' with rfl | rfl | rfl | rfl | h
     · exact st.ne (i := 5) (j := 8) (by decide) rfl rfl _ (hk) (.head _)
     · exact st.ne (i := 5) (j := 7) (by decide) rfl rfl _ (hk) (.head _)
     · exact st.ne (i := 5) (j := 1) (by decide) rfl rfl _ (hk) (.head _)
     · exact st.ne (i := 5) (j := 0) (by decide) rfl rfl _ (hk) (.head _)
     · have := hE0 k h; have := hN2.2 k hk; omega)) ?_)
 rintro _ w ⟨rfl, hq, hc⟩
 replace st := st.withinI (i := 5) (fun w => DcRQ w ol1 cl1 (p.locks.map (trD f.g f.h)) Sl) rfl hc (fun k hk => hk) (fun k hk => .inr (hN2.2 k hk)) hq loc_dc
 dsimp only [setNth] at st
 refine et (vk6 4 5 6 7 8 10 (vc_seq (sr ?_)))
 refine yfz 2 underlying26 sizeOf24 ?_
 refine yl st 2 isAgg24 ?_
 refine vy (y_lensl rfl underlying24) ?_
 refine ym ?_
 refine et (vk8 4 5 6 7 8 10 28 29 (vc_block ?_))
 refine vc_loop (w0 := w0) (M := []) (fun (j : Nat) => [(4, .pointer (some ⟨b4, 0, none⟩)), (5, .pointer (some ⟨b5, 0, none⟩)), (6, .pointer (some ⟨b6, 0, none⟩)), (7, .pointer (some ⟨b7, 0, none⟩)), (8, .func (.func 118) #[] [.pointer (some ⟨b4, 0, none⟩), .pointer (some ⟨b5, 0, none⟩)].toArray), (10, .pointer (some ⟨b10, 0, none⟩)), (28, .int .i64 (p.threads.length : Int)), (29, .int .i64 (j : Int))]) (fun j => [.tree Stt (fun w => ThRQ w ot1 ct1 (mixL (trT f.g f.h) p.threads j) Stt), .tree Ss (fun w => DcRQ w os1 cs1 (p.shared.map (trD f.g f.h)) Ss), .tree Sl (fun w => DcRQ w ol1 cl1 (p.locks.map (trD f.g f.h)) Sl), .blk b10 (.cells [.func (.func 120) #[] [.pointer (some ⟨b4, 0, none⟩), .pointer (some ⟨b5, 0, none⟩), .pointer (some ⟨b9, 0, none⟩), .pointer (some ⟨b10, 0, none⟩)].toArray].toArray 103 (0, 0)), .blk b9 (.cells [.func (.func 119) #[] [.pointer (some ⟨b4, 0, none⟩), .pointer (some ⟨b5, 0, none⟩), .pointer (some ⟨b9, 0, none⟩)].toArray].toArray 102 (0, 0)), .blk b7 (.cells [.slice os1 p.shared.length cs1, .slice ol1 p.locks.length cl1, .slice ot1 p.threads.length ct1].toArray 26 (0, 0)), .blk b6 (.cells [.slice none 0 0, .slice none 0 0, .slice none 0 0].toArray 26 (0, 0)), .blk b5 (.cells [.func (.func f.fa) #[] f.ca.toArray].toArray 97 (0, 0)), .blk b4 (.cells [.func (.func f.fn) #[] f.cn.toArray].toArray 95 (0, 0))]) (fun j _ => j ≤ p.threads.length) (fun j => p.threads.length - j) 0 ⟨rfl, rfl, rfl, rfl, rfl, rfl, rfl, rfl, trivial⟩ (by simpa only [mixL_zero] using st.pick [3, 4, 5, 0, 1, 2, 6, 7, 8] rfl (by decide)) (by omega) ?_
 clear st
 rintro j w hj st
 refine sr ?_
 refine vy (y_lss rfl rfl) ?_
 refine et (vk9 4 5 6 7 8 10 28 29 30 (vc_seq ?_))
 refine vif ?_ ?_
 ·intro hc30
  try simp only [dn] at hc30
  obtain ⟨x, hx⟩ : ∃ x, p.threads[j]? = some x := ⟨_, List.getElem?_eq_getElem (by omega)⟩
  have hkx := hok.2.2.2 j x hx
  have hm0 := mixL_get (f := trT f.g f.h) hx
  have hm1 : (((mixL (trT f.g f.h) p.threads j)).set j (t1 (f.env b4 b5 b9 b10) x))[j]? = some (t1 (f.env b4 b5 b9 b10) x) := set_get hm0
  have hm2 : (((mixL (trT f.g f.h) p.threads j)).set j (t2 (f.env b4 b5 b9 b10) x))[j]? = some (t2 (f.env b4 b5 b9 b10) x) := set_get hm0
  have hm3 : (((mixL (trT f.g f.h) p.threads j)).set j (t3 (f.env b4 b5 b9 b10) x))[j]? = some (t3 (f.env b4 b5 b9 b10) x) := set_get hm0
  have h12 : (((mixL (trT f.g f.h) p.threads j)).set j (t1 (f.env b4 b5 b9 b10) x)).set j ((t1 (f.env b4 b5 b9 b10) x).setAt (f.h x.a)) = (((mixL (trT f.g f.h) p.threads j)).set j (t2 (f.env b4 b5 b9 b10) x)) := List.set_set ..
  have h23 : (((mixL (trT f.g f.h) p.threads j)).set j (t2 (f.env b4 b5 b9 b10) x)).set j ((t2 (f.env b4 b5 b9 b10) x).setLocals (x.locals.map (trD f.g f.h))) = (((mixL (trT f.g f.h) p.threads j)).set j (t3 (f.env b4 b5 b9 b10) x)) := List.set_set ..
  have h34 : (((mixL (trT f.g f.h) p.threads j)).set j (t3 (f.env b4 b5 b9 b10) x)).set j ((t3 (f.env b4 b5 b9 b10) x).setBody (trSs f.g f.h x.body)) = mixL (trT f.g f.h) p.threads (j + 1) := by rw [List.set_set]; exact mixL_step (f := trT f.g f.h) hx
  have stK := st
  obtain ⟨b, _, _, _, _, _, _, rfl, -⟩ := thR_focus (st.res (i := 0) rfl).1 hN3.1 hm0
  have st := stK
  clear stK
  have hcell0 : ∀ w, ThRQ w (some ⟨b, 0, none⟩) ct1 (mixL (trT f.g f.h) p.threads j) Stt → w.cell? ⟨b, j * 4 + 0, none⟩ = some (str x.nm) ∧ w.cell? ⟨b, j * 4 + 3, none⟩ = some (.int .i64 x.a) := fun w h => by
   obtain ⟨b', _, _, _, _, _, _, hb', -, hc, -⟩ := thR_focus h hN3.1 hm0
   simp only [Option.some.injEq, Addr.mk.injEq, and_true] at hb'
   subst hb'
   exact ⟨hc 0 _ rfl, hc 3 _ rfl⟩
  refine kt (vk8 4 5 6 7 8 10 28 29 (vc_seq (vc_block (sr ?_))))
  refine ym ?_
  refine ya ?_
  refine et (vk9 4 5 6 7 8 10 11 28 29 (sr ?_))
  refine yfz 2 underlying26 sizeOf24 ?_
  refine yl st 5 isAgg24 ?_
  refine ym ?_
  refine vy (y_ia0 (k := j) rfl rfl underlying24 sizeOf69 rfl (by omega)) ?_
  refine ya ?_
  refine et (vk9 4 5 6 7 8 10 12 28 29 (vc_seq ?_))
  refine kdr Tryz.mixed [Yt 0, Yt 1, Yt 3, Yt 4, Yt 5, Yt 9, Yt 10, Yt 11, Yt 2, Yt 6, Yt 8, Yt 12, Nt 7, Nt 13, Yt 14, Yt 15, Nt 16, Yt 17, Yt 18, Nt 19] 16 [.tree Stt (fun w => ThRQ w (some ⟨b, 0, none⟩) ct1 (mixL (trT f.g f.h) p.threads j) Stt), .tree Ss (fun w => DcRQ w os1 cs1 (p.shared.map (trD f.g f.h)) Ss), .tree Sl (fun w => DcRQ w ol1 cl1 (p.locks.map (trD f.g f.h)) Sl), .blk b10 (.cells [.func (.func 120) #[] [.pointer (some ⟨b4, 0, none⟩), .pointer (some ⟨b5, 0, none⟩), .pointer (some ⟨b9, 0, none⟩), .pointer (some ⟨b10, 0, none⟩)].toArray].toArray 103 (0, 0)), .blk b9 (.cells [.func (.func 119) #[] [.pointer (some ⟨b4, 0, none⟩), .pointer (some ⟨b5, 0, none⟩), .pointer (some ⟨b9, 0, none⟩)].toArray].toArray 102 (0, 0)), .blk b7 (.cells [.slice os1 p.shared.length cs1, .slice ol1 p.locks.length cl1, .slice (some ⟨b, 0, none⟩) p.threads.length ct1].toArray 26 (0, 0)), .blk b6 (.cells [.slice none 0 0, .slice none 0 0, .slice none 0 0].toArray 26 (0, 0)), .blk b5 (.cells [.func (.func f.fa) #[] f.ca.toArray].toArray 97 (0, 0)), .blk b4 (.cells [.func (.func f.fn) #[] f.cn.toArray].toArray 95 (0, 0))] st ?_
  clear st; intro w st hS
  iterate 3 refine km hS ?_
  refine vk_takeU rfl rfl rfl rfl (fun _ => hS) (fun w => y_nck rfl) ?_
  refine vk_takeU rfl rfl rfl rfl (fun _ => hS) (fun w => y_fa0 rfl underlying69 rfl rfl sizeOf9 rfl) ?_
  refine km hS ?_
  refine vk_takeU rfl rfl rfl rfl (fun _ => hS) (fun w => y_nck rfl) ?_
  refine vk_takeU rfl rfl rfl rfl (fun _ => hS) (fun w => (by exact y_fa (k := 3) rfl underlying69 rfl rfl sizeOf3 rfl)) ?_
  refine vk_take rfl rfl rfl rfl hS (fun w st => y_ld st 8 rfl isAgg95 rfl rfl) ?_
  refine vk_take rfl rfl rfl rfl hS (fun w st => y_ldc rfl isAgg9 (hcell0 _ (st.res (i := 0) rfl).1).1) ?_
  refine vk_take rfl rfl rfl rfl hS (fun w st => y_ld st 7 rfl isAgg97 rfl rfl) ?_
  refine vk_take rfl rfl rfl rfl hS (fun w st => y_ldc rfl isAgg3 (hcell0 _ (st.res (i := 0) rfl).1).2) ?_
  refine vk_do rfl rfl (e_callv [_] rfl rfl rfl ok.calln rfl (ok.nm x.nm _ (hψ st.chg)) ?_)
  rintro _ _ ⟨rfl, rfl⟩
  refine vk_next (by exact st) ?_; intro hS
  refine vk_do rfl rfl (e_callv [_] rfl rfl rfl ok.calla rfl (ok.at_ x.a _ (hψ st.chg)) ?_)
  rintro _ _ ⟨rfl, rfl⟩
  refine vk_next (by exact st) ?_; intro hS
  refine vk_takeU rfl rfl rfl rfl (fun _ => hS) (fun w => y_nck rfl) ?_
  refine vk_takeU rfl rfl rfl rfl (fun _ => hS) (fun w => y_fa0 rfl underlying69 rfl rfl sizeOf9 rfl) ?_
  obtain ⟨c1, om1, cm1, on1, cn1, Sl1, Sb1, hb1, r1, k1, ql1, qb1, nl1, nb1, ul1, ub1, z1, z2, pl1, pb1⟩ := thR_focus (st.res (i := 0) rfl).1 hN3.1 hm0
  simp only [Option.some.injEq, Addr.mk.injEq, and_true] at hb1
  subst hb1
  refine vk_do rfl rfl (e_stT st 0 (ψ := fun w => ThRQ w (some ⟨b, 0, none⟩) ct1 (((mixL (trT f.g f.h) p.threads j)).set j (t1 (f.env b4 b5 b9 b10) x)) Stt) rfl rfl rfl rfl sizeOf9 rfl r1.mem (.inr (hN3.2 _ r1.mem)) ⟨_, k1 0 _ rfl⟩ (r1.fz _) (z1 _) loc_th ?_)
  intro w st; dsimp only [setNth] at st
  refine vk_late ?_
  refine vk_takeU rfl rfl rfl rfl (fun h => by cases h) (fun w => y_nck rfl) ?_
  refine vk_takeU rfl rfl rfl rfl (fun h => by cases h) (fun w => (by exact y_fa (k := 3) rfl underlying69 rfl rfl sizeOf3 rfl)) ?_
  clear z1 z2
  obtain ⟨c2, om2, cm2, on2, cn2, Sl2, Sb2, hb2, r2, k2, ql2, qb2, nl2, nb2, ul2, ub2, z1, z2, pl2, pb2⟩ := thR_focus (st.res (i := 0) rfl).1 hN3.1 hm1
  simp only [Option.some.injEq, Addr.mk.injEq, and_true] at hb2
  subst hb2
  refine vk_do rfl rfl (e_stT st 0 (ψ := fun w => ThRQ w (some ⟨b, 0, none⟩) ct1 (((mixL (trT f.g f.h) p.threads j)).set j (t2 (f.env b4 b5 b9 b10) x)) Stt) rfl rfl rfl rfl sizeOf3 rfl r2.mem (.inr (hN3.2 _ r2.mem)) ⟨_, k2 3 _ rfl⟩ (r2.fz _) (h12 ▸ z2 (f.h x.a)) loc_th ?_)
  intro w st; dsimp only [setNth] at st
  refine vk_late ?_
  refine vk_end ?_
  refine vq_then (vk9 4 5 6 7 8 10 12 28 29 (sr ?_))
  clear z1 z2
  obtain ⟨c3, om3, cm3, on3, cn3, Sl3, Sb3, hb3, r3, k3, ql3, qb3, nl3, nb3, ul3, ub3, z1, z2, pl3, pb3⟩ := thR_focus (st.res (i := 0) rfl).1 hN3.1 hm2
  simp only [Option.some.injEq, Addr.mk.injEq, and_true] at hb3
  subst hb3
  iterate 2 refine ym ?_
  refine ynk ?_
  refine vy (y_fa (k := 1) rfl underlying69 rfl rfl sizeOf23 rfl) ?_
  refine vy (y_ldc rfl isAgg23 (k3 1 _ rfl)) ?_
  refine vc_e (e_callv [_] rfl rfl rfl call118 rfl (dl_any (f.env b4 b5 b9 b10) hok9 x.locals hkx.1.1 om3 cm3 Sl3 _ ql3 nl3 ⟨st.res (i := 8) rfl, st.res (i := 7) rfl, hψ st.chg⟩ (fun k hk => by
      simp only [Fns.env, List.mem_cons] at hk
      rcases hk with rfl | rfl | rfl | rfl | h
      · exact st.lt (mem_nth (i := 8) rfl) (.head _)
      · exact st.lt (mem_nth (i := 7) rfl) (.head _)
      · exact st.lt (mem_nth (i := 4) rfl) (.head _)
      · exact st.lt (mem_nth (i := 3) rfl) (.head _)
      · exact Nat.lt_of_lt_of_le (hE0 k h) st.chg.size) (fun k hk hk' => by
      simp only [Fns.env, List.mem_cons] at hk'
      rcases hk' with rfl | rfl | rfl | rfl | h
      · exact st.ne (i := 0) (j := 8) (by decide) rfl rfl _ (ul3 k hk) (.head _)
      · exact st.ne (i := 0) (j := 7) (by decide) rfl rfl _ (ul3 k hk) (.head _)
      · exact st.ne (i := 0) (j := 4) (by decide) rfl rfl _ (ul3 k hk) (.head _)
      · exact st.ne (i := 0) (j := 3) (by decide) rfl rfl _ (ul3 k hk) (.head _)
      · have := hE0 k h; have := hN3.2 k (ul3 k hk); omega)) ?_)
  rintro _ w ⟨rfl, hq, hc⟩
  replace st := st.withinI (i := 0) (fun w => ThRQ w (some ⟨b, 0, none⟩) ct1 (((mixL (trT f.g f.h) p.threads j)).set j (t3 (f.env b4 b5 b9 b10) x)) Stt) rfl hc ul3 (fun k hk => .inr (hN3.2 k hk)) (h23 ▸ pl3 w (x.locals.map (trD f.g f.h)) (by rw [List.length_map]; rfl) hq hc) loc_th
  dsimp only [setNth] at st
  refine et (vk9 4 5 6 7 8 10 12 28 29 ?_)
  refine kdr Tryz.mixed [Yt 1, Yt 2, Yt 3, Yt 0, Nt 4, Nt 5] 5 [.tree Stt (fun w => ThRQ w (some ⟨b, 0, none⟩) ct1 (((mixL (trT f.g f.h) p.threads j)).set j (t3 (f.env b4 b5 b9 b10) x)) Stt), .tree Ss (fun w => DcRQ w os1 cs1 (p.shared.map (trD f.g f.h)) Ss), .tree Sl (fun w => DcRQ w ol1 cl1 (p.locks.map (trD f.g f.h)) Sl), .blk b10 (.cells [.func (.func 120) #[] [.pointer (some ⟨b4, 0, none⟩), .pointer (some ⟨b5, 0, none⟩), .pointer (some ⟨b9, 0, none⟩), .pointer (some ⟨b10, 0, none⟩)].toArray].toArray 103 (0, 0)), .blk b9 (.cells [.func (.func 119) #[] [.pointer (some ⟨b4, 0, none⟩), .pointer (some ⟨b5, 0, none⟩), .pointer (some ⟨b9, 0, none⟩)].toArray].toArray 102 (0, 0)), .blk b7 (.cells [.slice os1 p.shared.length cs1, .slice ol1 p.locks.length cl1, .slice (some ⟨b, 0, none⟩) p.threads.length ct1].toArray 26 (0, 0)), .blk b6 (.cells [.slice none 0 0, .slice none 0 0, .slice none 0 0].toArray 26 (0, 0)), .blk b5 (.cells [.func (.func f.fa) #[] f.ca.toArray].toArray 97 (0, 0)), .blk b4 (.cells [.func (.func f.fn) #[] f.cn.toArray].toArray 95 (0, 0))] st ?_
  clear st; intro w st hS
  refine km hS ?_
  refine vk_takeU rfl rfl rfl rfl (fun _ => hS) (fun w => y_nck rfl) ?_
  refine vk_takeU rfl rfl rfl rfl (fun _ => hS) (fun w => (by exact y_fa (k := 2) rfl underlying69 rfl rfl sizeOf65 rfl)) ?_
  refine vk_take rfl rfl rfl rfl hS (fun w st => y_ld st 3 rfl isAgg103 rfl rfl) ?_
  clear z1 z2
  obtain ⟨c4, om4, cm4, on4, cn4, Sl4, Sb4, hb4, r4, k4, ql4, qb4, nl4, nb4, ul4, ub4, z1, z2, pl4, pb4⟩ := thR_focus (st.res (i := 0) rfl).1 hN3.1 hm3
  simp only [Option.some.injEq, Addr.mk.injEq, and_true] at hb4
  subst hb4
  refine vk_do rfl rfl (e_run rfl rfl (y_ldc rfl isAgg65 (k4 2 _ rfl)) ?_)
  refine vk_next (by exact st) ?_; intro hS
  refine vk_do rfl rfl (e_callv [_] rfl rfl rfl call120 rfl (sl_any (f.env b4 b5 b9 b10) hok9 _ x.body rfl hkx.2.1 on4 cn4 Sb4 _ qb4 nb4 ⟨⟨⟨st.res (i := 8) rfl, st.res (i := 7) rfl, hψ st.chg⟩, st.res (i := 4) rfl⟩, st.res (i := 3) rfl⟩ (fun k hk => by
      simp only [Fns.env, List.mem_cons] at hk
      rcases hk with rfl | rfl | rfl | rfl | h
      · exact st.lt (mem_nth (i := 8) rfl) (.head _)
      · exact st.lt (mem_nth (i := 7) rfl) (.head _)
      · exact st.lt (mem_nth (i := 4) rfl) (.head _)
      · exact st.lt (mem_nth (i := 3) rfl) (.head _)
      · exact Nat.lt_of_lt_of_le (hE0 k h) st.chg.size) (fun k hk hk' => by
      simp only [Fns.env, List.mem_cons] at hk'
      rcases hk' with rfl | rfl | rfl | rfl | h
      · exact st.ne (i := 0) (j := 8) (by decide) rfl rfl _ (ub4 k hk) (.head _)
      · exact st.ne (i := 0) (j := 7) (by decide) rfl rfl _ (ub4 k hk) (.head _)
      · exact st.ne (i := 0) (j := 4) (by decide) rfl rfl _ (ub4 k hk) (.head _)
      · exact st.ne (i := 0) (j := 3) (by decide) rfl rfl _ (ub4 k hk) (.head _)
      · have := hE0 k h; have := hN3.2 k (ub4 k hk); omega)) ?_)
  rintro _ w ⟨rfl, hq, hc⟩
  replace st := st.withinI (i := 0) (fun w => ThRQ w (some ⟨b, 0, none⟩) ct1 (mixL (trT f.g f.h) p.threads (j + 1)) Stt) rfl hc ub4 (fun k hk => .inr (hN3.2 k hk)) (h34 ▸ pb4 w (trSs f.g f.h x.body) (by rw [trSs_len]; rfl) hq hc) loc_th
  dsimp only [setNth] at st
  refine vk_late ?_
  refine vk_end ?_
  refine vq_block (vq_then (vk8 4 5 6 7 8 10 28 29 (vc_region ?_)))
  refine vy (y_add rfl rfl (by omega : _ = ((j + 1 : Nat) : Int)) (by omega) (by omega)) ?_
  refine ym ?_
  refine vc_end ?_
  refine vq_again (j + 1)  ⟨rfl, rfl, rfl, rfl, rfl, rfl, rfl, rfl, trivial⟩ st ?_ ?_
  ·omega
  omega
 intro hc30
 try simp only [dn] at hc30
 obtain rfl : j = p.threads.length := by omega
 rw [mixL_all] at st
 refine vc_exit (vq_then_exit (vq_then_exit (vq_block_exit (vq_then (vk2 6 7 (sr ?_))))))
 refine yla st 5 [_, _, _] isAgg26 sizeOf26 ?_
 refine vc_e (ests st 6 [_, _, _] sizeOf26 ?_)
 intro w st; dsimp only [setNth, wr] at st
 refine et (vk1 6 (vc_ret ?_))
 refine vq_ret1 st (.inl rfl) results55 (by exact .cell 6 rfl rfl isAgg26 sizeOf26) ?_
 refine ⟨_, rfl, ?_⟩
 exact ⟨_, Ss ++ (Sl ++ Stt), rfl, ⟨os1, cs1, ol1, cl1, ot1, ct1, Ss, Sl, Stt, by simp [trP], (st.res (i := 1) rfl).1, (st.res (i := 2) rfl).1, (st.res (i := 0) rfl).1, rfl⟩, hN0, st.chg⟩
end Go.Proofs.YtnmhlpnapgojjaaGreatDoor


/- How long a tree's text is: no program in sight. -/
namespace LexS
open Sx
theorem shw_len20 (x : Int) (hx : i64 x) : (shw x).length ≤ 20 := by
  have h : (dec x.natAbs).length ≤ 19 := dec_len 18 _ (by have := hx.1; have := hx.2; omega)
  unfold shw
  split <;> simp <;> omega
theorem par_len (b : Bool) (l : List UInt8) : (par b l).length ≤ l.length + 2 := by
  unfold par
  split <;> simp
theorem txtE_len : ∀ (n : Nat) (e : Ex), SizeOf.sizeOf e = n → OkE e → (txtE e).length ≤ 30 * szE e := by
  intro n
  refine Nat.strongRecOn n fun n ih e hn hok => ?_
  subst hn
  cases e with
  | mk k op wd nm kids a =>
    have hw := shw_len20 wd hok.wd
    have ho := shwO_len op
    have hkid : ∀ (j : Nat) x, kids[j]? = some x → (txtE x).length ≤ 30 * szE x := fun j x hx => ih _ (by have := List.sizeOf_lt_of_mem (List.mem_of_getElem? hx); simp; omega) x rfl (hok.kid (j := j) hx)
    rcases kids with _ | ⟨x, _ | ⟨y, _ | ⟨z, r⟩⟩⟩
    · simp only [txtE, szE, szEs]
      split
      · omega
      · split
        · omega
        · split <;> simp; omega
    · have h1 := hkid 0 x rfl
      have h2 := par_len (decide (x.k = 4)) (txtE x)
      simp only [txtE, szE, szEs]
      split
      · omega
      · split
        · omega
        · split
          · simp only [List.length_append]; omega
          · simp
    · have h1 := hkid 0 x rfl
      have h2 := par_len (inn op x false) (txtE x)
      have h3 := hkid 1 y rfl
      have h4 := par_len (inn op y true) (txtE y)
      simp only [txtE, szE, szEs]
      split
      · omega
      · split
        · omega
        · split
          · simp; omega
          · simp only [List.length_append, List.length_cons, List.length_nil]; omega
    · simp only [txtE, szE, szEs]
      split
      · omega
      · split
        · omega
        · split <;> simp; omega
theorem txX_len (l : List Ex) (h : OkEs l) : (txX l).length ≤ 30 * szEs l := by
  cases l with
  | nil => simp [txX]
  | cons x r => have := txtE_len _ x rfl (h.2 0 x rfl); simp only [txX, szEs]; omega
theorem mar_len' (d : Nat) : (mar d).length = 2 * d := by simp [mar]
theorem txtSs_len_of {l : List Sm} {d : Nat} (h : ∀ s ∈ l, rightS s d = true → (txtS s d).length ≤ 600 * szS s) (hr : rightSs l d = true) : (txtSs l d).length ≤ 600 * szSs l := by
  induction l with
  | nil => simp [txtSs]
  | cons s r ih =>
    simp only [rightSs, Bool.and_eq_true] at hr
    have h1 := h s (by simp) hr.1
    have h2 := ih (fun x hx => h x (.tail _ hx)) hr.2
    simp only [txtSs, szSs, List.length_append]; omega
theorem txtS_len : ∀ (n : Nat) (s : Sm), SizeOf.sizeOf s = n → OkS s → ∀ d, d ≤ 64 → rightS s d = true → (txtS s d).length ≤ 600 * szS s := by
  intro n
  refine Nat.strongRecOn n fun n ih s hn hok d hd hr => ?_
  subst hn
  cases s with
  | mk k nm other e body els a =>
    have hx := txX_len e hok.e
    rw [rightS] at hr
    simp only [Bool.and_eq_true, Bool.or_eq_true, decide_eq_true_eq, Bool.not_eq_true', Bool.or_eq_false_iff, decide_eq_false_iff_not] at hr
    obtain ⟨⟨⟨⟨⟨⟨⟨⟨h1, h2⟩, h3⟩, h4⟩, h5⟩, h6⟩, h7⟩, h8⟩, h9⟩ := hr
    have hm := mar_len' d
    have hb : d < 64 ∨ (body = [] ∧ els = []) := by
      rcases h7 with ⟨q1, q2⟩ | h
      · right
        refine ⟨?_, List.eq_nil_of_length_eq_zero (by omega)⟩
        rcases h5 with h | h
        · rw [q1] at h; cases h
        · exact List.eq_nil_of_length_eq_zero h
      · exact .inl h
    have hB : (txtSs body (d + 1)).length ≤ 600 * szSs body := by
      rcases hb with h | ⟨rfl, -⟩
      · refine txtSs_len_of (fun s hs hr => ?_) h8
        obtain ⟨j, hj⟩ := List.mem_iff_getElem?.1 hs
        exact ih _ (by have := List.sizeOf_lt_of_mem hs; simp; omega) s rfl (hok.body.2 j s hj) (d + 1) (by omega) hr
      · simp [txtSs]
    have hL : (txtSs els (d + 1)).length ≤ 600 * szSs els := by
      rcases hb with h | ⟨-, rfl⟩
      · refine txtSs_len_of (fun s hs hr => ?_) h9
        obtain ⟨j, hj⟩ := List.mem_iff_getElem?.1 hs
        exact ih _ (by have := List.sizeOf_lt_of_mem hs; simp; omega) s rfl (hok.els.2 j s hj) (d + 1) (by omega) hr
      · simp [txtSs]
    rw [txtS, szS]
    split
    · simp only [List.length_append, List.length_cons, List.length_nil]; omega
    · split
      · simp only [List.length_append, List.length_cons, List.length_nil]; omega
      · split
        · simp only [List.length_append, List.length_cons, List.length_nil]; omega
        · split
          · simp only [List.length_append, List.length_cons, List.length_nil]; omega
          · split
            · simp only [List.length_append, List.length_cons, List.length_nil]; omega
            · have hw : (if k = 4 then [119, 104, 105, 108, 101, 32, 40] else [105, 102, 32, 40] : List UInt8).length ≤ 7 := by split <;> simp
              have hz : (if 0 < els.length then mar d ++ [125, 32, 101, 108, 115, 101, 32, 123, 10] ++ txtSs els (d + 1) else [] : List UInt8).length ≤ 2 * d + 9 + 600 * szSs els := by
                split
                · simp only [List.length_append, List.length_cons, List.length_nil]; omega
                · simp
              rw [List.length_append, List.length_append, List.length_append, List.length_append, List.length_append, List.length_append, List.length_append]
              simp only [List.length_cons, List.length_nil]
              omega
theorem txtSs_len {l : List Sm} {d : Nat} (hok : OkSs l) (hd : d ≤ 64) (hr : rightSs l d = true) : (txtSs l d).length ≤ 600 * szSs l :=
  txtSs_len_of (fun s hs h => by
    obtain ⟨j, hj⟩ := List.mem_iff_getElem?.1 hs
    exact txtS_len _ s rfl (hok.2 j s hj) d hd h) hr
theorem joinC_len2 : ∀ (l : List Dc), (∀ x ∈ l, i64 x.wd) → (joinC (l.map dcT)).length ≤ 30 * szDs l
  | [], _ => by simp [joinC]
  | [x], h => by
    have := shw_len20 x.wd (h x (by simp))
    simp only [List.map_cons, List.map_nil, joinC, dcT, szDs]
    split <;> simp <;> omega
  | x :: y :: r, h => by
    have h0 := shw_len20 x.wd (h x (by simp))
    have ih := joinC_len2 (y :: r) (fun z hz => h z (.tail _ hz))
    simp only [List.map_cons, joinC, szDs, List.length_append, List.length_cons, List.length_nil] at ih ⊢
    have : (dcT x).length ≤ x.nm.length + 23 := by unfold dcT; split <;> simp <;> omega
    omega
theorem dcsT_len (word : List UInt8) (d : Nat) (l : List Dc) (h : OkD l) : (dcsT word d l).length ≤ 2 * d + word.length + 3 + 30 * szDs l := by
  have := joinC_len2 l (fun x hx => by obtain ⟨j, hj⟩ := List.mem_iff_getElem?.1 hx; exact (h.2 j x hj).1)
  unfold dcsT
  split
  · simp
  · simp only [List.length_append, List.length_cons, List.length_nil, mar_len']; omega
theorem thsT_len : ∀ (l : List Th), (∀ t ∈ l, OkD t.locals ∧ OkSs t.body) → (∀ t ∈ l, thOk t = true) → ((l.map thT).flatten).length ≤ 600 * szTs l
  | [], _, _ => by simp
  | t :: r, h, h2 => by
    obtain ⟨q1, q2⟩ := h t (by simp)
    have ih := thsT_len r (fun x hx => h x (.tail _ hx)) (fun x hx => h2 x (.tail _ hx))
    have h3 := h2 t (by simp)
    unfold thOk at h3
    simp only [Bool.and_eq_true] at h3
    have h4 := txtSs_len q2 (d := 1) (by omega) h3.2
    have h5 := dcsT_len [108, 111, 99, 97, 108] 1 t.locals q1
    simp only [List.map_cons, List.flatten_cons, List.length_append, szTs, thT, List.length_cons, List.length_nil] at h5 ih ⊢
    omega
theorem pgT_len (p : Pg) (hok : OkP p) (hp : pgOk p = true) : (pgT p).length ≤ 100 + 600 * szP p := by
  obtain ⟨h1, h2, h3⟩ := hok
  unfold pgOk at hp
  simp only [Bool.and_eq_true] at hp
  have a1 := dcsT_len [115, 104, 97, 114, 101, 100] 0 p.shared h1
  have a2 := dcsT_len [108, 111, 99, 107] 0 p.locks h2
  have a3 := thsT_len p.threads (fun t ht => by obtain ⟨j, hj⟩ := List.mem_iff_getElem?.1 ht; exact ⟨(h3.2 j t hj).1, (h3.2 j t hj).2.1⟩) (fun t ht => List.all_eq_true.1 hp.2 t ht)
  simp only [pgT, szP, List.length_append, List.length_cons, List.length_nil] at a1 a2 a3 ⊢
  omega
end LexS


/- Places change no text: no program in sight. -/
namespace LexS
open Sx
abbrev idS : List UInt8 → List UInt8 := fun s => s
section
variable {h : Int → Int}
theorem trE_k (e : Ex) : (trE idS h e).k = e.k := by cases e; rfl
theorem trE_op (e : Ex) : (trE idS h e).op = e.op := by cases e; rfl
theorem inn_tr (op : Int) (x : Ex) (b : Bool) : inn op (trE idS h x) b = inn op x b := by unfold inn; rw [trE_k, trE_op]
theorem rightE_tr : ∀ (n : Nat) (e : Ex), SizeOf.sizeOf e = n → ∀ d, rightE (trE idS h e) d = rightE e d := by
  intro n
  refine Nat.strongRecOn n fun n ih e hn d => ?_
  subst hn
  cases e with
  | mk k op wd nm kids a =>
    have hkid : ∀ x ∈ kids, ∀ d, rightE (trE idS h x) d = rightE x d := fun x hx d => ih _ (by have := List.sizeOf_lt_of_mem hx; simp; omega) x rfl d
    rcases kids with _ | ⟨x, _ | ⟨y, _ | ⟨z, r⟩⟩⟩
    · simp only [trE, trEs, rightE]
    · simp only [trE, trEs, rightE, trE_k, hkid x (by simp)]; simp
    · simp only [trE, trEs, rightE, inn_tr, hkid x (by simp), hkid y (by simp)]; simp
    · simp only [trE, trEs, rightE]; simp
theorem txtE_tr : ∀ (n : Nat) (e : Ex), SizeOf.sizeOf e = n → txtE (trE idS h e) = txtE e := by
  intro n
  refine Nat.strongRecOn n fun n ih e hn => ?_
  subst hn
  cases e with
  | mk k op wd nm kids a =>
    have hkid : ∀ x ∈ kids, txtE (trE idS h x) = txtE x := fun x hx => ih _ (by have := List.sizeOf_lt_of_mem hx; simp; omega) x rfl
    rcases kids with _ | ⟨x, _ | ⟨y, _ | ⟨z, r⟩⟩⟩
    · simp only [trE, trEs, txtE]
    · simp only [trE, trEs, txtE, trE_k, hkid x (by simp)]
    · simp only [trE, trEs, txtE, inn_tr, hkid x (by simp), hkid y (by simp)]
    · simp only [trE, trEs, txtE]
theorem rightX_tr (b : Bool) (l : List Ex) : rightX b (trEs idS h l) = rightX b l := by
  rcases l with _ | ⟨x, _ | ⟨y, r⟩⟩
  · rfl
  · simp only [trEs, rightX, rightE_tr _ x rfl]; simp
  · simp only [trEs, rightX]; simp [trEs_map]
theorem txX_tr (l : List Ex) : txX (trEs idS h l) = txX l := by
  cases l with
  | nil => rfl
  | cons x r => simp only [trEs, txX, txtE_tr _ x rfl]
theorem trSs_len' (l : List Sm) : (trSs idS h l).length = l.length := by rw [trSs_map, List.length_map]
mutual
theorem rightS_tr : ∀ (s : Sm) (d : Nat), rightS (trS idS h s) d = rightS s d
  | .mk k nm other e body els a, d => by
    simp only [trS, rightS, rightX_tr, trSs_len', rightSs_tr body, rightSs_tr els]
termination_by structural s => s
theorem rightSs_tr : ∀ (l : List Sm) (d : Nat), rightSs (trSs idS h l) d = rightSs l d
  | [], d => rfl
  | s :: r, d => by simp only [trSs, rightSs, rightS_tr s, rightSs_tr r]
termination_by structural l => l
end
mutual
theorem txtS_tr : ∀ (s : Sm) (d : Nat), txtS (trS idS h s) d = txtS s d
  | .mk k nm other e body els a, d => by
    simp only [trS, txtS, txX_tr, trSs_len', txtSs_tr body, txtSs_tr els]
termination_by structural s => s
theorem txtSs_tr : ∀ (l : List Sm) (d : Nat), txtSs (trSs idS h l) d = txtSs l d
  | [], d => rfl
  | s :: r, d => by simp only [trSs, txtSs, txtS_tr s, txtSs_tr r]
termination_by structural l => l
end
theorem all_map {α : Type} {p : α → Bool} {f : α → α} (hp : ∀ x, p (f x) = p x) (l : List α) : (l.map f).all p = l.all p := by
  rw [List.all_map]; congr 1; funext x; exact hp x
theorem dcOk_tr (b : Bool) (x : Dc) : dcOk b (trD idS h x) = dcOk b x := rfl
theorem thOk_tr (t : Th) : thOk (trT idS h t) = thOk t := by
  simp only [thOk, trT, all_map (dcOk_tr false), rightSs_tr]
theorem dcsT_tr (word : List UInt8) (d : Nat) (l : List Dc) : dcsT word d (l.map (trD idS h)) = dcsT word d l := by
  simp only [dcsT, List.length_map, List.map_map]; rfl
theorem thT_tr (t : Th) : thT (trT idS h t) = thT t := by
  simp only [thT, trT, dcsT_tr, txtSs_tr]
theorem pgOk_tr (p : Pg) : pgOk (trP idS h p) = pgOk p := by
  simp only [pgOk, trP, all_map (dcOk_tr true), all_map (dcOk_tr false), all_map thOk_tr]
theorem pgT_tr (p : Pg) : pgT (trP idS h p) = pgT p := by
  simp only [pgT, trP, dcsT_tr, List.map_map]
  congr 2
  refine List.map_congr_left fun t _ => ?_
  exact thT_tr t
theorem pgRes_tr (p : Pg) : pgRes (trP idS h p) = pgRes p := by
  simp only [pgRes, pgOk_tr, pgT_tr]
end
/-! ### twice -/
section
variable {g : List UInt8 → List UInt8} {h g' : List UInt8 → List UInt8} {k k' : Int → Int}
mutual
theorem trE_trE : ∀ e : Ex, trE g' k' (trE g k e) = trE (fun s => g' (g s)) (fun a => k' (k a)) e
  | .mk _ op wd nm kids a => by simp only [trE, trEs_trEs kids]
termination_by structural e => e
theorem trEs_trEs : ∀ l : List Ex, trEs g' k' (trEs g k l) = trEs (fun s => g' (g s)) (fun a => k' (k a)) l
  | [] => rfl
  | e :: r => by simp only [trEs, trE_trE e, trEs_trEs r]
termination_by structural l => l
end
mutual
theorem trS_trS : ∀ s : Sm, trS g' k' (trS g k s) = trS (fun s => g' (g s)) (fun a => k' (k a)) s
  | .mk _ nm other e body els a => by simp only [trS, trEs_trEs, trSs_trSs body, trSs_trSs els]
termination_by structural e => e
theorem trSs_trSs : ∀ l : List Sm, trSs g' k' (trSs g k l) = trSs (fun s => g' (g s)) (fun a => k' (k a)) l
  | [] => rfl
  | s :: r => by simp only [trSs, trS_trS s, trSs_trSs r]
termination_by structural l => l
end
theorem trP_trP (p : Pg) : trP g' k' (trP g k p) = trP (fun s => g' (g s)) (fun a => k' (k a)) p := by
  have hd : ∀ l : List Dc, (l.map (trD g k)).map (trD g' k') = l.map (trD (fun s => g' (g s)) (fun a => k' (k a))) := fun l => by rw [List.map_map]; rfl
  simp only [trP, hd, List.map_map]
  congr 1
  refine List.map_congr_left fun t _ => ?_
  simp only [Function.comp, trT, hd, trSs_trSs]
end
/-! ### the numbers stay of their kinds -/
section
variable {g : List UInt8 → List UInt8} {k : Int → Int} (hk : ∀ a, i64 a → i64 (k a))
include hk
theorem okE_tr : ∀ (n : Nat) (e : Ex), SizeOf.sizeOf e = n → OkE e → OkE (trE g k e) := by
  intro n
  refine Nat.strongRecOn n fun n ih e hn hok => ?_
  subst hn
  rw [trE_eq, trEs_map]
  refine .mk hok.k hok.op hok.wd (hk _ hok.a) (by simpa using hok.kids.1) fun j x hx => ?_
  rw [List.getElem?_map] at hx
  cases hj : e.kids[j]? with
  | none => rw [hj] at hx; cases hx
  | some y =>
    rw [hj] at hx
    cases hx
    exact ih _ (memE_lt (List.mem_of_getElem? hj)) y rfl (hok.kid hj)
theorem okEs_tr {l : List Ex} (h : OkEs l) : OkEs (trEs g k l) := by
  rw [trEs_map]
  refine ⟨by simpa using h.1, fun j x hx => ?_⟩
  rw [List.getElem?_map] at hx
  cases hj : l[j]? with
  | none => rw [hj] at hx; cases hx
  | some y => rw [hj] at hx; cases hx; exact okE_tr hk _ y rfl (h.2 j y hj)
theorem okS_tr : ∀ (n : Nat) (s : Sm), SizeOf.sizeOf s = n → OkS s → OkS (trS g k s) := by
  intro n
  refine Nat.strongRecOn n fun n ih s hn hok => ?_
  subst hn
  rw [trS_eq, trSs_map, trSs_map]
  have key : ∀ (l : List Sm), (∀ x ∈ l, SizeOf.sizeOf x < SizeOf.sizeOf s) → OkSs l → ∀ (j : Nat) x, (l.map (trS g k))[j]? = some x → OkS x := fun l hl h j x hx => by
    rw [List.getElem?_map] at hx
    cases hj : l[j]? with
    | none => rw [hj] at hx; cases hx
    | some y => rw [hj] at hx; cases hx; exact ih _ (hl y (List.mem_of_getElem? hj)) y rfl (h.2 j y hj)
  exact .mk hok.k (hk _ hok.a) (okEs_tr hk hok.e) (by simpa using hok.body.1) (key _ (fun x hx => memS_lt (.inl hx)) hok.body) (by simpa using hok.els.1) (key _ (fun x hx => memS_lt (.inr hx)) hok.els)
theorem okSs_tr {l : List Sm} (h : OkSs l) : OkSs (trSs g k l) := by
  rw [trSs_map]
  refine ⟨by simpa using h.1, fun j x hx => ?_⟩
  rw [List.getElem?_map] at hx
  cases hj : l[j]? with
  | none => rw [hj] at hx; cases hx
  | some y => rw [hj] at hx; cases hx; exact okS_tr hk _ y rfl (h.2 j y hj)
theorem okD_tr {l : List Dc} (h : OkD l) : OkD (l.map (trD g k)) := by
  refine ⟨by simpa using h.1, fun j x hx => ?_⟩
  rw [List.getElem?_map] at hx
  cases hj : l[j]? with
  | none => rw [hj] at hx; cases hx
  | some y => rw [hj] at hx; cases hx; exact ⟨(h.2 j y hj).1, hk _ (h.2 j y hj).2⟩
theorem okP_tr {p : Pg} (h : OkP p) : OkP (trP g k p) := by
  refine ⟨okD_tr hk h.1, okD_tr hk h.2.1, by simpa [trP] using h.2.2.1, fun j t hj => ?_⟩
  simp only [trP, List.getElem?_map] at hj
  cases hx : p.threads[j]? with
  | none => rw [hx] at hj; cases hj
  | some y =>
    rw [hx] at hj
    cases hj
    obtain ⟨h1, h2, h3⟩ := h.2.2.2 j y hx
    exact ⟨okD_tr hk h1, okSs_tr hk h2, hk _ h3⟩
end
end LexS


namespace Go.Proofs.YtnmhlpnapgojjaaGreatDoor
open Go.RowKit Sx LexS _root_.Go.Proofs.Tryz
end Go.Proofs.YtnmhlpnapgojjaaGreatDoor


namespace Go.Proofs.YtnmhlpnapgojjaaGreatDoor
open Go.RowKit Sx LexS _root_.Go.Proofs.Tryz
/-- a name that is changed for another -/
def renG (fr tn s : Wd) : Wd := if s = fr ∧ s ≠ [] then tn else s
abbrev idN : Int → Int := fun n => n
abbrev renP (p : Pg) (fr tn : Wd) : Pg := trP (renG fr tn) idN p
def renOk (p : Pg) (tn : Wd) : Bool := isName tn && !decide (tn ∈ namesL p)
theorem namesL_len (p : Pg) : (namesL p).length ≤ (nmsP p).length := by
 have := addAll_len (nmsP p) []
 simpa [namesL] using this
theorem contains_any (base : Nat) (ss : List Wd) (x : Wd) (oa : Option Addr) (cap : Nat) (w : World) (hn : ss.length ≤ 4398046511104) (ho : w.ownsRow base 9 1 (.slice oa ss.length cap) ss.length (ss.map str)) :
    Ret Tryz.prog 53 [.slice oa ss.length cap, str x] w fun v w' => v = .bool (decide (x ∈ ss)) ∧ w' = w := by
 rcases ho.2 with ⟨hnil, h0⟩ | ⟨g, cap', cur, hv, hbase, hb, h1, h2, h3, h4⟩
 ·have hs : ss = [] := List.length_eq_zero_iff.1 h0
  subst hs
  refine (Tryz.slices_Contains_string_empty oa cap ⟨x.toArray⟩ w).mono ?_
  rintro e w' ⟨rfl, rfl⟩
  exact ⟨_, rfl, by simp, rfl⟩
 ·simp only [Value.slice.injEq] at hv
  obtain ⟨rfl, -, rfl⟩ := hv
  have key := Tryz.slices_Contains_string g 0 ss.length cap (ss.map fun s => ⟨s.toArray⟩) ⟨x.toArray⟩ w (by simp) (by omega) (fun j hj => by
    have hj' : j < ss.length := by simpa using hj
    have h5 : (cur.toList.take (ss.length * 1))[j]? = (ss.map str)[j]? := by rw [h4]
    rw [List.getElem?_take_of_lt (by omega)] at h5
    simp only [World.cell?, hb, Nat.zero_add, Option.isSome_none, Bool.false_eq_true, if_false]
    rw [← Array.getElem?_toList, h5]
    simp [hj', str])
  refine key.mono ?_
  rintro e w' ⟨rfl, rfl⟩
  refine ⟨_, rfl, ?_, rfl⟩
  congr 1
  rw [Bool.eq_iff_iff, Lib.containsS_iff, List.take_of_length_le (by simp)]
  simp
theorem ren1_any (fr tn s : Wd) (b4 b5 : Nat) (w : World) (h4 : w.heap[b4]? = some (.cells [str fr].toArray 9 (0, 0))) (h5 : w.heap[b5]? = some (.cells [str tn].toArray 9 (0, 0))) :
    Ret Tryz.prog 54 [str s, .pointer (some ⟨b4, 0, none⟩), .pointer (some ⟨b5, 0, none⟩)] w fun v w' => v = str (renG fr tn s) ∧ w' = w := by
 refine ret_of [_, _, _] func54 rfl ntmps54 rfl ?_
 have st := St.init w []
 refine sr ?_
 refine ya ?_
 refine et (vk3 0 1 2 (vc_seq (sr ?_)))
 refine ym ?_
 refine vy (y_ldc rfl isAgg9 (cell_nth h4 rfl)) ?_
 refine vy (y_eqs rfl rfl) ?_
 refine vmb ?_ ?_
 focus
  intro hg8
  try simp only [dn] at hg8
  refine ym ?_
  refine vy (y_nes rfl rfl) ?_
  refine ypt ?_
  refine et (vk3 0 2 11 ?_)
  refine vif ?_ ?_
  intro hc11
  try simp only [dn] at hc11
  refine sr ?_
  refine vy (y_ldc rfl isAgg9 (cell_nth h5 rfl)) ?_
  refine ya ?_
  refine et (vk1 4 (vc_ret (vq_then_ret ?_)))
  rotate_left
  intro hc11
  try simp only [dn] at hc11
  refine kt (vk1 0 (sr ?_))
  refine ym ?_
  refine ya ?_
  refine et (vk1 4 (vc_ret ?_))
 rotate_left 2
 intro hg8
 try simp only [dn] at hg8
 iterate 2 refine vsk ?_
 refine ypf ?_
 refine et (vk3 0 2 11 ?_)
 refine vc_iff rfl ?_
 refine kt (vk1 0 (sr ?_))
 refine ym ?_
 refine ya ?_
 refine et (vk1 4 (vc_ret ?_))
 all_goals
  refine vr1 st results54 ?_
  refine ⟨?_, rfl⟩
  unfold renG
  first | (rw [if_pos (by simp_all)]; done) | (rw [if_neg (by simp_all)]; done)
theorem ren2_any (a : Int) (w : World) : Ret Tryz.prog 56 [.int .i64 a] w fun v w' => v = .int .i64 a ∧ w' = w := by
 refine ret_of [_] func56 rfl ntmps56 rfl ?_
 have st := St.init w []
 refine sr ?_
 refine ya ?_
 refine et (vk1 0 (sr ?_))
 refine ym ?_
 refine ya ?_
 refine et (vk1 2 (vc_ret ?_))
 refine vr1 st results56 ?_
 exact ⟨rfl, rfl⟩
def fnsR (fr tn : Wd) (b4 b5 : Nat) : Fns := ⟨renG fr tn, idN, 54, 56, [.pointer (some ⟨b4, 0, none⟩), .pointer (some ⟨b5, 0, none⟩)], [], [b4, b5], fun w => w.heap[b4]? = some (.cells [str fr].toArray 9 (0, 0)) ∧ w.heap[b5]? = some (.cells [str tn].toArray 9 (0, 0))⟩
theorem fnsR_ok (fr tn : Wd) (b4 b5 : Nat) : (fnsR fr tn b4 b5).Ok := ⟨fun s w h => ren1_any fr tn s b4 b5 w h.1 h.2, fun a w _ => ren2_any a w, fun w w' h hk => ⟨by rw [hk b4 (by simp [fnsR])]; exact h.1, by rw [hk b5 (by simp [fnsR])]; exact h.2⟩, call54, call56⟩
abbrev noPg : List Value := [.slice none 0 0, .slice none 0 0, .slice none 0 0]
/-- what Rename answers -/
def RenV (p : Pg) (fr tn : Wd) (v : Value) (w w' : World) : Prop :=
 (pgOk p = false ∧ v = .tuple #[.agg noPg.toArray, .int .i64 40]) ∨ (pgOk p = true ∧ renOk p tn = false ∧ v = .tuple #[.agg noPg.toArray, .int .i64 2]) ∨
 (pgOk p = true ∧ renOk p tn = true ∧ ∃ (gs gl gt : Option Addr) (gcs gcl gct : Nat) (S : List Nat), v = .tuple #[.agg (pgL (renP p fr tn) gs gl gt gcs gcl gct).toArray, .int .i64 0] ∧ PgQ w' (renP p fr tn) (pgL (renP p fr tn) gs gl gt gcs gcl gct) S ∧ Nw w.heap.size S)

set_option maxHeartbeats 2000000 in
theorem rename_any {n0 : Nat} (p : Pg) (hok : OkP p) (fr tn : Wd) (os ol ot : Option Addr) (cs cl ct : Nat) (w : World) (hSh : DcRow w (· < n0) os p.shared) (hL : DcRow w (· < n0) ol p.locks) (hT : ThRow w (· < n0) ot p.threads) (hn0 : n0 ≤ w.heap.size) (hsg : Sig w) (hlen : (nmsP p).length ≤ 4398046511104) :
    Ret Tryz.prog 18 [.agg (pgL p os ol ot cs cl ct).toArray, str fr, str tn] w fun v w' => RenV p fr tn v w w' ∧ Chg [] w w' := by
 refine ret_of [_, _, _] func18 rfl ntmps18 rfl ?_
 have st := St.init w []
 obtain ⟨w0, rfl⟩ : ∃ w0, w0 = w := ⟨_, rfl⟩
 refine sr ?_
 refine vc_e (e_bx (l := [_, _, _]) st rfl rfl rfl rfl ?_)
 intro b3 w hb3 st
 refine vc_e (e_bx (l := [_]) st rfl rfl rfl rfl ?_)
 intro b4 w hb4 st
 refine vc_e (e_bx (l := [_]) st rfl rfl rfl rfl ?_)
 intro b5 w hb5 st
 refine vc_e (e_al (l := [_, _, _]) st rfl rfl zeroValue26 rfl ?_)
 intro b6 w hb6 st
 refine ya ?_
 refine et (vk4 3 4 5 6 (vc_seq (sr ?_)))
 refine yla st 3 [_, _, _] isAgg26 sizeOf26 ?_
 refine vc_e (e_call [_] rfl rfl call38 rfl (right_any p _ _ _ _ _ _ _ (RowC.kept hSh st.sm) (RowC.kept hL st.sm) (hT.kept st.sm) hok (hsg.kept st.chg)) ?_)
 rintro _ w ⟨rfl, cw⟩
 replace st := st.call0 cw
 refine vy (y_not rfl) ?_
 refine et (vk5 3 4 5 6 11 ?_)
 refine vif ?_ ?_
 ·intro hc11
  try simp only [dn] at hc11
  refine sr ?_
  refine vy (ybd (.agg #[_, _, _]) []) ?_
  refine vc_e (ests st 0 [_, _, _] sizeOf26 ?_)
  intro w st; dsimp only [setNth, wr] at st
  refine ya ?_
  refine et (vk2 6 7 (vc_ret (vq_then_ret ?_)))
  refine vq_ret2 st (.inl rfl) results18 (by exact .cell 0 rfl rfl isAgg26 sizeOf26) (.tmp rfl) ?_
  refine ⟨_, rfl, ?_⟩
  refine ⟨.inl ⟨by assumption, rfl⟩, st.chg⟩
 intro hc11
 try simp only [dn] at hc11
 refine kt (vk4 3 4 5 6 (vc_seq (vc_seq ?_)))
 refine vdr0 Tryz.mixed [Yt 0, Nt 1, Yt 2, Yt 3, Yt 4, Yt 6, Nt 5, Nt 7, Yt 8] st ?_
 clear st; intro w st hS
 refine pld hS 1 isAgg9 ?_
 refine vp_do rfl (e_call [_] rfl rfl call52 rfl (name_any tn _) ?_)
 rintro _ _ ⟨rfl, rfl⟩
 refine vp_next (by exact st) ?_; intro hS
 refine vp_take rfl rfl rfl hS (fun w st => y_not rfl) ?_
 refine vp_part rfl rfl rfl hS rfl ?_ ?_
 intro hg16
 try simp only [dn] at hg16
 iterate 2 refine vp_skip rfl rfl rfl hS ?_
 refine vp_do rfl (e_skip rfl rfl (vp_next hS (fun hS => ?_)))
 refine vp_do rfl (e_skip rfl rfl (vp_next hS (fun hS => ?_)))
 refine vp_take rfl rfl rfl hS (fun w st => y_pickt rfl rfl) ?_
 refine vp_end (vq_then (vk5 3 4 5 6 21 ?_))
 refine vc_ift rfl ?_
 refine sr ?_
 refine vy (ybd (.agg #[_, _, _]) []) ?_
 refine vc_e (ests st 0 [_, _, _] sizeOf26 ?_)
 intro w st; dsimp only [setNth, wr] at st
 refine ya ?_
 refine et (vk2 6 7 (vc_ret (vq_then_ret ?_)))
 rotate_left
 focus
  intro hg16
  try simp only [dn] at hg16
  refine vp_take rfl rfl rfl hS (fun w st => y_lda (vs := [_, _, _]) st 3 rfl isAgg26 sizeOf26 rfl rfl) ?_
  refine pld hS 1 isAgg9 ?_
  refine vp_do rfl (e_call [_] rfl rfl call21 rfl (names_any (S := (· < n0)) p hok _ _ _ _ _ _ _ (fun b hb => Nat.lt_of_lt_of_le hb (Nat.le_trans hn0 st.chg.size)) (RowC.kept hSh st.sm) (RowC.kept hL st.sm) (hT.kept st.sm) hlen) ?_)
  rintro _ w ⟨on, cn, rfl, ho, hc⟩
  have hoN := ho
  replace st := st.call0 hc
  refine vp_next (by exact st) ?_; intro hS
  refine vp_do rfl (e_call [_, _] rfl rfl call53 rfl (contains_any _ (namesL p) tn _ _ _ (by have := namesL_len p; omega) hoN) ?_)
  rintro _ _ ⟨rfl, rfl⟩
  refine vp_next (by exact st) ?_; intro hS
  refine vp_take rfl rfl rfl hS (fun w st => y_pickf rfl rfl) ?_
  refine vp_end (vq_then (vk5 3 4 5 6 21 ?_))
  refine vif ?_ ?_
  intro hc21
  try simp only [dn] at hc21
  refine sr ?_
  refine vy (ybd (.agg #[_, _, _]) []) ?_
  refine vc_e (ests st 0 [_, _, _] sizeOf26 ?_)
  intro w st; dsimp only [setNth, wr] at st
  refine ya ?_
  refine et (vk2 6 7 (vc_ret (vq_then_ret ?_)))
  rotate_left
  intro hc21
  try simp only [dn] at hc21
  refine kt (vk4 3 4 5 6 (sr ?_))
  refine vy (y_mf [] [_, _] rfl rfl) ?_
  refine ya ?_
  refine et (vk3 3 6 8 (sr ?_))
  refine yla st 3 [_, _, _] isAgg26 sizeOf26 ?_
  refine ym ?_
  refine vc_e (e_call [_, _, _] rfl rfl call55 rfl (turned_any (fnsR fr tn b4 b5) (fnsR_ok fr tn b4 b5) p hok _ _ _ _ _ _ _ (RowC.kept hSh st.sm) (RowC.kept hL st.sm) (hT.kept st.sm) (Nat.le_trans hn0 st.chg.size) ⟨st.res (i := 2) rfl, st.res (i := 1) rfl⟩ (fun b hb => by simp only [fnsR, List.mem_cons, List.not_mem_nil, or_false] at hb; rcases hb with rfl | rfl; exact st.lt (.tail _ (.tail _ (.head _))) (.head _); exact st.lt (.tail _ (.head _)) (.head _))) ?_)
  rintro _ w ⟨l, S, rfl, hQ, hN, cw⟩
  have hQ2 := hQ
  obtain ⟨gs, gcs, gl, gcl, gt, gct, Sa, Sb, Sc, rfl, -⟩ := hQ2
  have hN9 := hN.le st.chg.size
  replace st := St.pushR (r := .tree S (fun w => PgQ w (renP p fr tn) (pgL (renP p fr tn) gs gl gt gcs gcl gct) S)) st cw (holds_of hQ hQ.lt (fun a b h hk => h.kept hk)) hN.2
  refine vc_e (ests st 1 [_, _, _] sizeOf26 ?_)
  intro w st; dsimp only [setNth, wr] at st
  refine ya ?_
  refine et (vk2 6 7 (vc_ret ?_))
 all_goals
  refine vq_ret2 st (.inl rfl) results18 (by first | exact .cell 0 rfl rfl isAgg26 sizeOf26 | exact .cell 1 rfl rfl isAgg26 sizeOf26) (.tmp rfl) ?_
  refine ⟨_, rfl, ?_⟩
  refine ⟨?_, st.chg⟩
  have hp : pgOk p = true := by assumption
  first
   | (refine .inr (.inl ⟨hp, ?_, rfl⟩); unfold renOk; simp_all; done)
   | (refine .inr (.inr ⟨hp, ?_, gs, gl, gt, gcs, gcl, gct, S, rfl, (st.res (i := 0) rfl).1, hN9⟩); unfold renOk; simp_all; done)
end Go.Proofs.YtnmhlpnapgojjaaGreatDoor


/- What the parser computes, in plain words: no program in sight. -/
namespace ParS
open Sx LexS

/-- a rule that a text breaks, and where: (place, rule) -/
abbrev Flt := Nat × Nat
abbrev PR (α : Type) := Except Flt (α × List Tok)
def tok0 : Tok := ⟨0, [], 0, 0⟩
def here (ts : List Tok) : Tok := match ts with | t :: _ => t | [] => tok0
/-- the place of what stands here; 'e': the text's length -/
def atT (e : Nat) (ts : List Tok) : Nat := match ts with | t :: _ => t.at_ | [] => e
def isT (s : List UInt8) (ts : List Tok) : Bool := decide ((here ts).text = s) && (decide ((here ts).kind = 2) || decide ((here ts).kind = 4))
def fail {α : Type} (e rule : Nat) (ts : List Tok) : Except Flt α := .error (atT e ts, rule)
def want (e : Nat) (s : List UInt8) (ts : List Tok) : Except Flt (List Tok) := if isT s ts = true then .ok ts.tail else fail e 2 ts
def nameP (e : Nat) (ts : List Tok) : PR Tok := if (here ts).kind = 1 then .ok (here ts, ts.tail) else fail e 2 ts
def declP (e : Nat) (ts : List Tok) : PR Dc := match nameP e ts with
  | .error f => .error f
  | .ok (t, r) => .ok (⟨t.text, 0, (t.at_ : Int)⟩, r)
/-- a number behind a sign, or not -/
def wordP (e : Nat) (minus : Bool) (ts : List Tok) : PR Int := if (here ts).kind = 3 then .ok (if minus = true then -((here ts).word : Int) else ((here ts).word : Int), ts.tail) else fail e 2 ts
def initP (e : Nat) (ts : List Tok) : PR Dc := match nameP e ts with
  | .error f => .error f
  | .ok (t, r) => if isT [61] r = true then
      (match wordP e (isT [45] r.tail) (if isT [45] r.tail = true then r.tail.tail else r.tail) with
        | .error f => .error f
        | .ok (x, r') => .ok (⟨t.text, x, (t.at_ : Int)⟩, r'))
    else .ok (⟨t.text, 0, (t.at_ : Int)⟩, r)
/-- one or more, with commas between and a ; behind -/
def listP (e : Nat) (one : List Tok → PR Dc) : Nat → List Tok → PR (List Dc)
  | 0, ts => .error (0, 0)
  | n + 1, ts => match one ts with
    | .error f => .error f
    | .ok (d, r) => if isT [44] r = true then (match listP e one n r.tail with
        | .error f => .error f
        | .ok (l, r') => .ok (d :: l, r'))
      else match want e [59] r with
        | .error f => .error f
        | .ok r' => .ok ([d], r')

/-! ### expressions -/
/-- an operator of two that stands here -/
def opT (t : Tok) : Option Nat := if t.kind = 4 then findO t.text else none
/-- operators and what stands behind them -/
def flatE (u : List Tok → PR Ex) : Nat → List Tok → PR (List (Nat × Nat × Ex))
  | 0, ts => .error (0, 0)
  | n + 1, ts => match opT (here ts) with
    | none => .ok ([], ts)
    | some op => match u ts.tail with
      | .error f => .error f
      | .ok (x, r) => match flatE u n r with
        | .error f => .error f
        | .ok (l, r') => .ok ((op, (here ts).at_, x) :: l, r')
def binE (op a : Nat) (x y : Ex) : Ex := .mk 4 (op : Int) 0 [] [x, y] (a : Int)
abbrev Pend := Nat × Nat × Ex
/-- operators that wait and bind as strongly take their second side -/
def redu (all : Bool) (lv : Int) : List Pend → Ex → List Pend × Ex
  | [], x => ([], x)
  | (op, a, l) :: w, x => if all = true ∨ lv ≤ lvlO (op : Int) then redu all lv w (binE op a l x) else ((op, a, l) :: w, x)
def shunt : List Pend → List Pend → Ex → Ex
  | [], w, x => (redu true 0 w x).2
  | (op, a, y) :: r, w, x => shunt r ((op, a, (redu false (lvlO (op : Int)) w x).2) :: (redu false (lvlO (op : Int)) w x).1) y
def exprW (u : List Tok → PR Ex) (ts : List Tok) : PR Ex := match u ts with
  | .error f => .error f
  | .ok (x, r) => match flatE u (r.length + 1) r with
    | .error f => .error f
    | .ok (l, r') => .ok (shunt l [] x, r')
def leafP (e : Nat) (ts : List Tok) : PR Ex :=
  if (here ts).kind = 3 then .ok (.mk 1 0 ((here ts).word : Int) [] [] ((here ts).at_ : Int), ts.tail)
  else if (here ts).kind = 1 then .ok (.mk 2 0 0 (here ts).text [] ((here ts).at_ : Int), ts.tail)
  else fail e 2 ts
def innerT (ts : List Tok) : Bool := isT [45] ts || isT [33] ts || isT [40] ts
/-- 'm': how much deeper it may lie -/
def unaryP (e : Nat) : Nat → List Tok → PR Ex
  | 0, ts => if innerT ts = true then fail e 3 ts else leafP e ts
  | m + 1, ts => if innerT ts = true then
      (if (here ts).text = [40] then (match exprW (unaryP e m) ts.tail with
        | .error f => .error f
        | .ok (x, r) => match want e [41] r with
          | .error f => .error f
          | .ok r' => .ok (x, r'))
      else match unaryP e m ts.tail with
        | .error f => .error f
        | .ok (x, r) => .ok (.mk 3 (if (here ts).text = [33] then 18 else 17) 0 [] [x] ((here ts).at_ : Int), r))
    else leafP e ts
def exprP (e m : Nat) (ts : List Tok) : PR Ex := exprW (unaryP e m) ts

/-! ### statements -/
def condP (e : Nat) (ts : List Tok) : PR Ex := match want e [40] ts with
  | .error f => .error f
  | .ok r => match exprP e 64 r with
    | .error f => .error f
    | .ok (x, r1) => match want e [41] r1 with
      | .error f => .error f
      | .ok r2 => .ok (x, r2)
def exprSemi (e : Nat) (ts : List Tok) : PR Ex := match exprP e 64 ts with
  | .error f => .error f
  | .ok (x, r) => match want e [59] r with
    | .error f => .error f
    | .ok r' => .ok (x, r')
/-- what a swap's parentheses hold, and the ; -/
def swapP (e : Nat) (ts : List Tok) : PR (List UInt8 × Ex) := match want e [40] ts with
  | .error f => .error f
  | .ok r => match nameP e r with
    | .error f => .error f
    | .ok (t, r1) => match want e [44] r1 with
      | .error f => .error f
      | .ok r2 => match exprP e 64 r2 with
        | .error f => .error f
        | .ok (x, r3) => match want e [41] r3 with
          | .error f => .error f
          | .ok r4 => match want e [59] r4 with
            | .error f => .error f
            | .ok r5 => .ok ((t.text, x), r5)
def assignP (e : Nat) (a : Nat) (ts : List Tok) : PR Sm := match nameP e ts with
  | .error f => .error f
  | .ok (t, r) => match want e [61] r with
    | .error f => .error f
    | .ok r1 => if isT wSwap r1 = true then (match swapP e r1.tail with
        | .error f => .error f
        | .ok ((o, x), r2) => .ok (.mk 2 t.text o [x] [] [] (a : Int), r2))
      else match exprSemi e r1 with
        | .error f => .error f
        | .ok (x, r2) => .ok (.mk 1 t.text [] [x] [] [] (a : Int), r2)
/-- a word that a statement begins with -/
def formT (t : Tok) (s : List UInt8) : Bool := decide (t.text = s) && decide (t.kind = 2)
/-- a statement; 'blk': a block within -/
def stmtW (e : Nat) (blk : List Tok → PR (List Sm)) (ts : List Tok) : PR Sm :=
  if formT (here ts) wIf = true then (match condP e ts.tail with
    | .error f => .error f
    | .ok (x, r) => match blk r with
      | .error f => .error f
      | .ok (b, r1) => if isT wElse r1 = true then (match blk r1.tail with
          | .error f => .error f
          | .ok (l, r2) => .ok (.mk 3 [] [] [x] b l (atT e ts : Int), r2))
        else .ok (.mk 3 [] [] [x] b [] (atT e ts : Int), r1))
  else if formT (here ts) wWhile = true then (match condP e ts.tail with
    | .error f => .error f
    | .ok (x, r) => match blk r with
      | .error f => .error f
      | .ok (b, r1) => .ok (.mk 4 [] [] [x] b [] (atT e ts : Int), r1))
  else if formT (here ts) wLock = true then (match nameP e ts.tail with
    | .error f => .error f
    | .ok (t, r) => match blk r with
      | .error f => .error f
      | .ok (b, r1) => .ok (.mk 5 t.text [] [] b [] (atT e ts : Int), r1))
  else if formT (here ts) wPrint = true then (match exprSemi e ts.tail with
    | .error f => .error f
    | .ok (x, r) => .ok (.mk 6 [] [] [x] [] [] (atT e ts : Int), r))
  else if formT (here ts) wSkip = true then (match want e [59] ts.tail with
    | .error f => .error f
    | .ok r => .ok (.mk 7 [] [] [] [] [] (atT e ts : Int), r))
  else assignP e (atT e ts) ts
/-- statements up to the } , which is gone over -/
def restW (st : List Tok → PR Sm) : Nat → List Tok → PR (List Sm)
  | 0, ts => .error (0, 0)
  | n + 1, ts => if isT [125] ts = true then .ok ([], ts.tail) else match st ts with
    | .error f => .error f
    | .ok (s, r) => match restW st n r with
      | .error f => .error f
      | .ok (l, r') => .ok (s :: l, r')
/-- 'm': how much deeper blocks may lie -/
def stmtP (e : Nat) : Nat → List Tok → PR Sm
  | 0, ts => stmtW e (fun r => if isT [123] r = true then fail e 3 r else fail e 2 r) ts
  | m + 1, ts => stmtW e (fun r => match want e [123] r with
    | .error f => .error f
    | .ok r1 => restW (stmtP e m) (r1.length + 1) r1) ts
def restP (e m : Nat) (ts : List Tok) : PR (List Sm) := restW (stmtP e m) (ts.length + 1) ts

/-! ### programs -/
def localsP (e : Nat) : Nat → List Tok → PR (List Dc)
  | 0, ts => .error (0, 0)
  | n + 1, ts => if isT wLocal ts = true then (match listP e (declP e) (ts.length + 1) ts.tail with
      | .error f => .error f
      | .ok (l, r) => match localsP e n r with
        | .error f => .error f
        | .ok (l', r') => .ok (l ++ l', r'))
    else .ok ([], ts)
def threadP (e : Nat) (ts : List Tok) : PR Th := match nameP e ts with
  | .error f => .error f
  | .ok (t, r) => match want e [123] r with
    | .error f => .error f
    | .ok r1 => match localsP e (r1.length + 1) r1 with
      | .error f => .error f
      | .ok (l, r2) => match restP e 63 r2 with
        | .error f => .error f
        | .ok (b, r3) => .ok (⟨t.text, l, b, (t.at_ : Int)⟩, r3)
def threadsP (e : Nat) : Nat → List Tok → PR (List Th)
  | 0, ts => .error (0, 0)
  | n + 1, ts => if isT wThread ts = true then (match threadP e ts.tail with
      | .error f => .error f
      | .ok (t, r) => match threadsP e n r with
        | .error f => .error f
        | .ok (l, r') => .ok (t :: l, r'))
    else .ok ([], ts)
def progP (e : Nat) : Nat → List Tok → Except Flt Pg
  | 0, ts => .error (0, 0)
  | n + 1, ts => if isT wShared ts = true then (match listP e (initP e) (ts.length + 1) ts.tail with
      | .error f => .error f
      | .ok (l, r) => match progP e n r with
        | .error f => .error f
        | .ok p => .ok ⟨l ++ p.shared, p.locks, p.threads⟩)
    else if isT wLock ts = true then (match listP e (declP e) (ts.length + 1) ts.tail with
      | .error f => .error f
      | .ok (l, r) => match progP e n r with
        | .error f => .error f
        | .ok p => .ok ⟨p.shared, l ++ p.locks, p.threads⟩)
    else match threadsP e (ts.length + 1) ts with
      | .error f => .error f
      | .ok (l, r) => if r.length = 0 then .ok ⟨[], [], l⟩ else fail e 2 r
/-- Parse's answer: a program, an error, a place, a rule -/
def pg0 : Pg := ⟨[], [], []⟩
def parseRes (s : List UInt8) : Pg × Nat × Nat × Nat :=
  if 65536 < s.length then (pg0, 4, 0, 0) else match (front s).2 with
    | some (rule, p) => (pg0, 30, p, 1)
    | none => match progP s.length ((front s).1.length + 1) (front s).1 with
      | .error f => (pg0, 30, f.1, f.2)
      | .ok p => (p, 0, 0, 0)
def exprRes (s : List UInt8) : Ex × Nat × Nat × Nat :=
  if 65536 < s.length then (ex0, 4, 0, 0) else match (front s).2 with
    | some (rule, p) => (ex0, 30, p, 1)
    | none => match exprP s.length 64 (front s).1 with
      | .error f => (ex0, 30, f.1, f.2)
      | .ok (x, r) => if r.length = 0 then (x, 0, 0, 0) else (ex0, 30, atT s.length r, 2)
end ParS


/- What the parser computes, more: wanted words one after another; rests are rests of the tokens. -/
namespace ParS
open Sx LexS

/-- words that must stand here, one behind the other -/
def wantL (e : Nat) : List (List UInt8) → List Tok → Except Flt (List Tok)
  | [], ts => .ok ts
  | s :: l, ts => match want e s ts with
    | .error f => .error f
    | .ok r => wantL e l r
theorem wantL_one (e : Nat) (s : List UInt8) (ts : List Tok) : wantL e [s] ts = want e s ts := by
  simp only [wantL]; split <;> simp_all
theorem isT_ne {s : List UInt8} {r : List Tok} (h : isT s r = true) : r ≠ [] := by
  rintro rfl; simp [isT, here, tok0] at h
theorem kind_ne {k : Nat} {r : List Tok} (h : (here r).kind = k) (hk : k ≠ 0) : r ≠ [] := by
  rintro rfl; exact hk h.symm
theorem inner_ne {r : List Tok} (h : innerT r = true) : r ≠ [] := by rintro rfl; simp [innerT, isT, here, tok0] at h
theorem tail_lt {r : List Tok} (h : r ≠ []) : r.tail.length < r.length := by
  cases r with
  | nil => exact absurd rfl h
  | cons x l => simp
theorem want_ok {e : Nat} {s : List UInt8} {ts r : List Tok} (h : want e s ts = .ok r) : isT s ts = true ∧ r = ts.tail := by
  unfold want at h; split at h
  · rename_i hc; cases h; exact ⟨hc, rfl⟩
  · cases h
theorem want_pos {e : Nat} {s : List UInt8} {ts : List Tok} (h : isT s ts = true) : want e s ts = .ok ts.tail := by unfold want; rw [if_pos h]
theorem want_neg {e : Nat} {s : List UInt8} {ts : List Tok} (h : isT s ts = false) : want e s ts = .error (atT e ts, 2) := by unfold want; rw [if_neg (by simp [h])]; rfl
end ParS


/- A parser in memory: its tokens, its place; what its functions hand back, and how they fail. -/
namespace Sx
open Go Go.RowKit LexS ParS

abbrev tkL (t : Tok) : List Value := [.int .u8 (t.kind : Int), str t.text, .int .i64 (t.word : Int), .int .i64 (t.at_ : Int)]
abbrev exC (e : Ex) (oa : Option Addr) (cap : Nat) : List Value := [.int .u8 e.k, .int .u8 e.op, .int .i64 e.wd, str e.nm, .slice oa e.kids.length cap, .int .i64 e.a]
abbrev smC (s : Sm) (oe ob ol : Option Addr) (ce cb cl : Nat) : List Value := [.int .u8 s.k, str s.nm, str s.other, .slice oe s.e.length ce, .slice ob s.body.length cb, .slice ol s.els.length cl, .int .i64 s.a]
abbrev thC (t : Th) (ol ob : Option Addr) (cl cb : Nat) : List Value := [str t.nm, .slice ol t.locals.length cl, .slice ob t.body.length cb, .int .i64 t.a]
abbrev pgC (p : Pg) (os ol ot : Option Addr) (cs cl ct : Nat) : List Value := [.slice os p.shared.length cs, .slice ol p.locks.length cl, .slice ot p.threads.length ct]

/-- the operators' signs and levels, in the block of a variable -/
def SigAt (g : Nat) (w : World) : Prop := ∀ k, k < 19 → w.cell? ⟨g, k * 2, none⟩ = some (str (sgn k)) ∧ w.cell? ⟨g, k * 2 + 1, none⟩ = some (.int .i64 (lvl k))
theorem SigAt.kept {g : Nat} {M : List Nat} {w w' : World} (h : SigAt g w) (c : Chg M w w') (hg : g ∉ M) : SigAt g w' := fun k hk => ⟨c.cell (h k hk).1 hg, c.cell (h k hk).2 hg⟩

/-- what stays as long as a parser goes: 'pb' its block; 'n0': older blocks stay; 'T' the parser's type, 'R' the refusal's; 'g' the signs' block -/
structure PCtx where
  pb : Nat
  n0 : Nat
  oa : Option Addr
  cap : Nat
  ts : List Tok
  e : Nat
  T : Nat
  R : Nat
  g : Nat
/-- the parser's cells: its tokens, its place, the text's end; 'r' is what is left -/
abbrev pcell (c : PCtx) (r : List Tok) : List Value := [.slice c.oa c.ts.length c.cap, .int .i64 ((c.ts.length - r.length : Nat) : Int), .int .i64 (c.e : Int)]
abbrev PAt (c : PCtx) (r : List Tok) (w : World) : Prop := w.heap[c.pb]? = some (.cells (pcell c r).toArray c.T (0, 0))
/-- a refusal, as a panic's value -/
abbrev refV (c : PCtx) (f : Flt) : Value := .iface c.R (.agg #[.int .i64 (f.1 : Int), .int .i64 (f.2 : Int)])

structure PCok (c : PCtx) (w : World) : Prop where
  row : RowC w (· < c.n0) 4 c.oa c.ts.length (fun j => tkL (c.ts.getD j tok0))
  n0 : c.n0 ≤ c.pb
  g : c.g < c.n0
  len : c.ts.length ≤ 1048576
  el : c.e ≤ 1048576
  sig : SigAt c.g w
  le : c.n0 ≤ w.heap.size
  wd : ∀ t ∈ c.ts, t.word ≤ 9223372036854775807
theorem PCok.kept {c : PCtx} {M : List Nat} {w w' : World} (h : PCok c w) (k : Chg M w w') (hM : ∀ b ∈ M, c.n0 ≤ b) : PCok c w' :=
  ⟨h.row.kept (.of_chg k fun b hb hm => absurd (hM b hm) (Nat.not_le.2 hb)), h.n0, h.g, h.len, h.el, h.sig.kept k (fun hm => absurd (hM _ hm) (Nat.not_le.2 h.g)), Nat.le_trans h.le k.size, h.wd⟩
theorem PCok.k1 {c : PCtx} {w w' : World} (h : PCok c w) (k : Chg [c.pb] w w') : PCok c w' := h.kept k (by simpa using h.n0)
theorem PCok.k2 {c : PCtx} {b : Nat} {w w' : World} (h : PCok c w) (k : Chg [c.pb, b] w w') (hb : c.n0 ≤ b) : PCok c w' := h.kept k (by simpa using ⟨h.n0, hb⟩)

theorem suf_get {ts r : List Tok} (h : r <:+ ts) (hr : r ≠ []) : ts.getD (ts.length - r.length) tok0 = here r ∧ ts.length - r.length < ts.length := by
  obtain ⟨a, rfl⟩ := h
  cases r with
  | nil => exact absurd rfl hr
  | cons x l =>
    have e : (a ++ x :: l).length - (x :: l).length = a.length := by simp
    rw [e]
    exact ⟨by simp [List.getD, here], by simp⟩
theorem suf_len {ts r : List Tok} (h : r <:+ ts) : r.length ≤ ts.length := h.length_le
theorem suf_tail {ts r : List Tok} (h : r <:+ ts) : r.tail <:+ ts := (List.tail_suffix r).trans h
theorem here_wd {ts r : List Tok} (h : ∀ t ∈ ts, t.word ≤ 9223372036854775807) (hr : r <:+ ts) : (here r).word ≤ 9223372036854775807 := by
  cases r with
  | nil => exact Nat.zero_le _
  | cons x l => exact h x (hr.subset (.head _))
theorem neg_i64 {n : Nat} (h : n ≤ 9223372036854775807) : IntKind.i64.wrap (0 - (n : Int)) = -(n : Int) := by rw [IntWalk.i64_in _ ⟨by omega, by omega⟩]; omega
theorem here_nil {r : List Tok} (h : r.length = 0) : here r = tok0 := by rw [List.eq_nil_of_length_eq_zero h]; rfl
theorem atT_nil {e : Nat} {r : List Tok} (h : r.length = 0) : atT e r = e := by rw [List.eq_nil_of_length_eq_zero h]; rfl
theorem atT_cons {e : Nat} {r : List Tok} (h : r ≠ []) : atT e r = (here r).at_ := by cases r with | nil => exact absurd rfl h | cons x l => rfl

/-- the cells of the token that stands here -/
theorem PCok.tok {c : PCtx} {w : World} (h : PCok c w) {r : List Tok} (hs : r <:+ c.ts) (hr : r ≠ []) : ∃ b off, c.oa = some ⟨b, off, none⟩ ∧ ∀ i v, (tkL (here r))[i]? = some v → w.cell? ⟨b, off + (c.ts.length - r.length) * 4 + i, none⟩ = some v := by
  obtain ⟨h1, h2⟩ := suf_get hs hr
  rcases h.row with h0 | ⟨b, off, e, hb, hl, hc⟩
  · omega
  · refine ⟨b, off, e, fun i v hi => (hc _ h2).2 i v ?_⟩
    dsimp only; rw [h1]; exact hi

/-- what a function of a parser hands back -/
def PRes {α : Type} (c : PCtx) (r : List Tok) (res : PR α) (M : List Nat) (w : World) (H : α → Value → World → Prop) (v : Value) (w' : World) : Prop :=
  ∃ x r', res = .ok (x, r') ∧ r' <:+ r ∧ r'.length < r.length ∧ PAt c r' w' ∧ Chg M w w' ∧ H x v w'
/-- it refuses -/
def PErr {α : Type} (c : PCtx) (res : Except Flt α) (M : List Nat) (w : World) (v : Value) (w' : World) : Prop :=
  ∃ f, res = .error f ∧ v = refV c f ∧ Chg M w w'

section
variable {w w' w0 : World} {M : List Nat} {hs : List Res}
/-- a block that is held has been written on by a callee -/
theorem St.prs {b : Nat} {o o' : Obj} (st : St w0 M hs w) (i : Nat) (hi : nth hs i = some (.blk b o)) (ch : Chg [b] w w') (hm : b ∈ M ∨ w0.heap.size ≤ b) (h' : w'.heap[b]? = some o') : St w0 M (setNth hs i (.blk b o')) w' :=
  st.turn hi rfl rfl ch hm h'
/-- and something new has come -/
theorem St.prsT {b : Nat} {o o' : Obj} {q : Res} (st : St w0 M hs w) (i : Nat) (hi : nth hs i = some (.blk b o)) (ch : Chg [b] w w') (hm : b ∈ M ∨ w0.heap.size ≤ b) (h' : w'.heap[b]? = some o')
    (hq : q.holds w0.heap.size w') (hqa : ∀ k ∈ q.at?, w.heap.size ≤ k) : St w0 M (q :: setNth hs i (.blk b o')) w' :=
  st.swapPush hi ch (by simp [Res.at?]) (by simpa using hm) (by simp [Res.at?]) h' hq hqa
/-- two blocks that are held are two -/
theorem St.bne {b b' : Nat} {o o' : Obj} (st : St w0 M hs w) (i j : Nat) (hij : i ≠ j) (hi : nth hs i = some (.blk b o)) (hj : nth hs j = some (.blk b' o')) : b ≠ b' := fun e => apart_nth st.nodup hij hi hj b (.head _) (by rw [e]; exact .head _)
theorem holds_ex {tE base : Nat} {oa : Option Addr} {cap : Nat} {es : List Ex} {S : List Nat} (h : ExR tE w oa cap es S) : (Res.tree S fun w => ExR tE w oa cap es S).holds base w := holds_of h h.lt (fun a b h hk => h.kept hk)
theorem holds_sm {tE tS base : Nat} {oa : Option Addr} {cap : Nat} {es : List Sm} {S : List Nat} (h : SmR tE tS w oa cap es S) : (Res.tree S fun w => SmR tE tS w oa cap es S).holds base w := holds_of h h.lt (fun a b h hk => h.kept hk)
theorem holds_dc {tD base : Nat} {oa : Option Addr} {cap : Nat} {es : List Dc} {S : List Nat} (h : DcR tD w oa cap es S) : (Res.tree S fun w => DcR tD w oa cap es S).holds base w := holds_of h h.lt (fun a b h hk => h.kept hk)
end
end Sx


namespace Go.Proofs.YtnmhlpnapgojjaaGreatDoor.Pq
open Go.RowKit Sx LexS ParS _root_.Go.Proofs.Tryz

theorem known_any (k : Int) (w : World) : Ret Tryz.prog 157 [.int .u8 k] w fun v w' => v = .bool (knownOp k) ∧ w' = w := by
 refine ret_of [_] func157 rfl ntmps157 rfl ?_
 have st := St.init w []
 refine sr ?_
 refine ya ?_
 refine et (vk1 0 (sr ?_))
 refine ym ?_
 refine vy (y_gtr rfl rfl) ?_
 refine vmb ?_ ?_
 intro hg5
 try simp only [dn] at hg5
 refine ym ?_
 refine vy (y_lss rfl rfl) ?_
 refine ypt ?_
 rotate_left
 intro hg5
 try simp only [dn] at hg5
 iterate 2 refine vsk ?_
 refine ypf ?_
 all_goals
  refine ya ?_
  refine et (vk1 2 (vc_ret ?_))
  refine vr1 st results157 ?_
  refine ⟨?_, rfl⟩
  congr 1
  unfold knownOp
  (symm; simp; omega)
theorem two_any (k : Int) (w : World) : Ret Tryz.prog 104 [.int .u8 k] w fun v w' => v = .bool (twoOp k) ∧ w' = w := by
 refine ret_of [_] func104 rfl ntmps104 rfl ?_
 have st := St.init w []
 refine sr ?_
 refine ya ?_
 refine et (vk1 0 (sr ?_))
 refine ym ?_
 refine vc_e (e_call [_] rfl rfl call157 rfl (known_any _ _) ?_)
 rintro _ _ ⟨rfl, rfl⟩
 refine vmb ?_ ?_
 focus
  intro hg5
  try simp only [dn] at hg5
  refine ym ?_
  refine vy (y_nei rfl rfl) ?_
  refine ypt ?_
  refine vmb ?_ ?_
  intro hg9
  try simp only [dn] at hg9
  refine ym ?_
  refine vy (y_nei rfl rfl) ?_
  refine ypt ?_
  rotate_left
  intro hg9
  try simp only [dn] at hg9
  iterate 2 refine vsk ?_
  refine ypf ?_
 rotate_left 2
 intro hg5
 try simp only [dn] at hg5
 iterate 2 refine vsk ?_
 refine ypf ?_
 refine ym ?_
 iterate 2 refine vsk ?_
 refine ypf ?_
 all_goals
  refine ya ?_
  refine et (vk1 2 (vc_ret ?_))
  refine vr1 st results104 ?_
  refine ⟨?_, rfl⟩
  show Value.bool _ = Value.bool _
  congr 1
  unfold knownOp at *
  unfold twoOp
  simp only [decide_eq_true_eq, decide_eq_false_iff_not, Bool.not_eq_true', Bool.not_eq_false'] at *
  first | (symm; rw [decide_eq_false_iff_not]; omega) | (rw [Bool.eq_iff_iff]; simp only [Bool.not_eq_true', decide_eq_false_iff_not, decide_eq_true_eq]; omega)
theorem level_any (k : Int) (w : World) (hs : SigAt 0 w) : Ret Tryz.prog 105 [.int .u8 k] w fun v w' => v = .int .i64 (lvlO k) ∧ w' = w := by
 refine ret_of [_] func105 rfl ntmps105 rfl ?_
 have st := St.init w []
 refine sr ?_
 refine ya ?_
 refine et (vk1 0 (vc_seq (sr ?_)))
 refine ym ?_
 refine vc_e (e_call [_] rfl rfl call157 rfl (known_any _ _) ?_)
 rintro _ _ ⟨rfl, rfl⟩
 refine vy (y_not rfl) ?_
 refine et (vk2 0 5 ?_)
 refine vif ?_ ?_
 ·intro hc5
  try simp only [dn] at hc5
  refine sr ?_
  refine ya ?_
  refine et (vk1 2 (vc_ret (vq_then_ret ?_)))
  refine vr1 st results105 ?_
  refine ⟨?_, rfl⟩
  unfold lvlO
  rw [if_neg (by simpa using hc5)]
 intro hc5
 try simp only [dn] at hc5
 have hk : 0 < k ∧ k < 19 := by simpa [knownOp] using hc5
 obtain ⟨m, rfl⟩ : ∃ m : Nat, k = (m : Int) := ⟨k.toNat, by omega⟩
 refine kt (vk1 0 (sr ?_))
 refine ym ?_
 refine vy (y_iaa (k := m) rfl rfl underlying204 sizeOf203 rfl (by omega)) ?_
 refine vy (y_fa (k := 1) rfl underlying203 rfl rfl sizeOf3 rfl) ?_
 refine vy ((by exact y_ldc rfl isAgg3 (by have h := (hs m (by omega)).2; rw [Nat.zero_add]; exact h))) ?_
 refine ya ?_
 refine et (vk1 2 (vc_ret ?_))
 refine vr1 st results105 ?_
 refine ⟨?_, rfl⟩
 unfold lvlO
 rw [if_pos (by simpa using hc5)]
 rfl
/-- no operator of two below 'j' has the sign -/
def noOp (s : List UInt8) (j : Nat) : Prop := ∀ k, k < j → (twoOp (k : Int) && decide (sgn k = s)) = false
theorem findO_at {s : List UInt8} {j : Nat} (hj : j < 19) (h : noOp s j) (h2 : twoOp (j : Int) = true) (h3 : sgn j = s) : findO s = some j := by
 unfold findO
 rw [List.find?_eq_some_iff_append]
 refine ⟨by simp [h2, h3], List.range j, (List.range' (j + 1) (18 - j)), ?_, fun k hk => (by have := h k (by simpa using hk); show (!(twoOp (k : Int) && decide (sgn k = s))) = true; rw [this]; rfl)⟩
 rw [List.range_eq_range', List.range_eq_range', show 19 = j + (19 - j) by omega, ← List.range'_append_1]
 rw [show 19 - j = (18 - j) + 1 by omega, List.range'_succ]
 simp
theorem findO_no {s : List UInt8} (h : noOp s 19) : findO s = none := by
 unfold findO
 rw [List.find?_eq_none]
 intro k hk
 have := h k (by simpa using hk)
 show ¬ (twoOp (k : Int) && decide (sgn k = s)) = true
 rw [this]; simp
theorem noOp_step {s : List UInt8} {j : Nat} (h : noOp s j) (h2 : (twoOp (j : Int) && decide (sgn j = s)) = false) : noOp s (j + 1) := fun k hk => by
 rcases Nat.lt_or_ge k j with h1 | h1
 ·exact h k h1
 ·obtain rfl : k = j := by omega
  exact h2

theorem find_any (s : List UInt8) (w : World) (hs : SigAt 0 w) : Ret Tryz.prog 110 [str s] w fun v w' => v = .tuple [.int .u8 (((findO s).getD 0 : Nat) : Int), .bool (findO s).isSome].toArray ∧ w' = w := by
 refine ret_of [_] func110 rfl ntmps110 rfl ?_
 have st := St.init w []
 obtain ⟨w0, rfl⟩ : ∃ w0, w0 = w := ⟨_, rfl⟩
 refine sr ?_
 iterate 2 refine ya ?_
 refine et (vk1 0 (vc_seq (sr ?_)))
 refine ym ?_
 refine et (vk2 0 5 (vc_block ?_))
 refine vc_loop (w0 := w0) (M := []) (fun (j : Nat) => [(0, str s), (5, .int .u8 (j : Int))]) (fun _ => []) (fun j w' => j ≤ 19 ∧ noOp s j ∧ w' = w0) (fun j => 19 - j) 0 ⟨rfl, rfl, trivial⟩ st ⟨by simp, fun k hk => by omega, rfl⟩ ?_
 clear st
 rintro j w ⟨hj, hno, rfl⟩ st
 refine sr ?_
 refine vy (y_lss rfl rfl) ?_
 refine et (vk3 0 5 6 (vc_seq ?_))
 refine vif ?_ ?_
 ·intro hc6
  try simp only [dn] at hc6
  refine kt (vk2 0 5 (vc_seq (vc_block (sr ?_))))
  refine ym ?_
  refine ya ?_
  refine et (vk3 0 4 5 (sr ?_))
  refine ym ?_
  refine vc_e (e_call [_] rfl rfl call104 rfl (two_any _ _) ?_)
  rintro _ _ ⟨rfl, rfl⟩
  refine vmb ?_ ?_
  ·intro hg10
   try simp only [dn] at hg10
   refine ym ?_
   refine vy (y_iaa (k := j) rfl rfl underlying204 sizeOf203 rfl (by omega)) ?_
   refine vy (y_fa0 rfl underlying203 rfl rfl sizeOf9 rfl) ?_
   refine vy ((by exact y_ldc rfl isAgg9 (by have h := (hs j (by omega)).1; rw [Nat.zero_add]; exact h))) ?_
   refine ym ?_
   refine vy (y_eqs rfl rfl) ?_
   refine ypt ?_
   refine et (vk4 0 4 5 17 ?_)
   refine vif ?_ ?_
   ·intro hc17
    try simp only [dn] at hc17
    refine sr ?_
    refine ym ?_
    iterate 2 refine ya ?_
    refine et (vk2 2 3 (vc_ret (vq_block_ret (vq_then_ret (vq_then_ret (vq_block_ret (vq_then_ret ?_)))))))
    refine vq_ret2 st (.inl rfl) results110 (.tmp rfl) (.tmp rfl) ?_
    refine ⟨_, rfl, ?_⟩
    have he : findO s = some j := findO_at (by omega) hno (by simp_all) (by simp_all)
    rw [he]
    exact ⟨rfl, rfl⟩
   intro hc17
   try simp only [dn] at hc17
   refine vc_code_skip (vq_block (vq_then (vk2 0 5 (vc_region ?_))))
   refine vy (y_addk rfl rfl (by rw [wrap_u8]; omega : _ = ((j + 1 : Nat) : Int))) ?_
   refine ym ?_
   refine vc_end ?_
   refine vq_again (j + 1)  ⟨rfl, rfl, trivial⟩ st ?_ ?_
   ·exact ⟨by omega, noOp_step hno (by simp_all), rfl⟩
   omega
  intro hg10
  try simp only [dn] at hg10
  iterate 6 refine vsk ?_
  refine ypf ?_
  refine et (vk4 0 4 5 17 ?_)
  refine vc_iff rfl ?_
  refine vc_code_skip (vq_block (vq_then (vk2 0 5 (vc_region ?_))))
  refine vy (y_addk rfl rfl (by rw [wrap_u8]; omega : _ = ((j + 1 : Nat) : Int))) ?_
  refine ym ?_
  refine vc_end ?_
  refine vq_again (j + 1)  ⟨rfl, rfl, trivial⟩ st ?_ ?_
  ·exact ⟨by omega, noOp_step hno (by simp_all), rfl⟩
  omega
 intro hc6
 try simp only [dn] at hc6
 refine vc_exit (vq_then_exit (vq_then_exit (vq_block_exit (vq_then (vc_keep [] trivial (sr ?_))))))
 iterate 2 refine ya ?_
 refine et (vk2 2 3 (vc_ret ?_))
 refine vq_ret2 st (.inl rfl) results110 (.tmp rfl) (.tmp rfl) ?_
 refine ⟨_, rfl, ?_⟩
 obtain rfl : j = 19 := by omega
 have he : findO s = none := findO_no hno
 rw [he]
 exact ⟨rfl, rfl⟩
end Go.Proofs.YtnmhlpnapgojjaaGreatDoor.Pq


namespace Go.Proofs.YtnmhlpnapgojjaaGreatDoor.Pq
open Go.RowKit Sx LexS ParS _root_.Go.Proofs.Tryz

theorem phere_any (c : PCtx) (r : List Tok) (hr : r <:+ c.ts) (w : World) (hC : PCok c w) (hP : PAt c r w) : Ret Tryz.prog 109 [.pointer (some ⟨c.pb, 0, none⟩)] w fun v w' => v = .agg (tkL (here r)).toArray ∧ Chg [] w w' := by
 obtain ⟨pb, n0, oa, cap, ts, e, TT, R, g⟩ := c
 dsimp only [PAt, pcell] at hr hP ⊢
 refine ret_of [_] func109 rfl ntmps109 rfl ?_
 obtain ⟨w0, rfl⟩ : ∃ w0, w0 = w := ⟨_, rfl⟩
 have st := St.of1 [] hP
 refine sr ?_
 refine vc_e (e_al (l := [_, _, _, _]) st rfl rfl zeroValue118 rfl ?_)
 intro b2 w hb2 st
 refine et (vk2 0 2 (vc_seq (vc_seq ?_)))
 refine vdr0 Tryz.mixed [Yt 0, Yt 1, Yt 2, Yt 3, Yt 4, Yt 5, Yt 6, Yt 7, Yt 8, Yt 9] st ?_
 clear st; intro w st hS
 refine pm hS ?_
 refine pnk hS ?_
 refine pfz hS 1 underlying91 sizeOf3 ?_
 refine pld hS 1 isAgg3 ?_
 refine pm hS ?_
 refine pnk hS ?_
 refine pf0 hS underlying91 sizeOf89 ?_
 refine pld hS 1 isAgg89 ?_
 refine vp_take rfl rfl rfl hS (fun w st => y_lensl rfl underlying89) ?_
 refine vp_take rfl rfl rfl hS (fun w st => y_lss rfl rfl) ?_
 refine vp_end (vq_then (vk3 0 2 12 ?_))
 refine vif ?_ ?_
 ·intro hc12
  try simp only [dn] at hc12
  have hne : r ≠ [] := by rintro rfl; simp at hc12
  obtain ⟨tb, tq, hoa, hc⟩ := hC.tok hr hne
  have hlt := (suf_get hr hne).2
  dsimp only at hoa hc hlt
  subst hoa
  refine vc_seq ?_
  refine vdr Tryz.mixed [Yt 0, Yt 1, Yt 2, Yt 3, Yt 4, Yt 5, Yt 6, Yt 7, Yt 8, Yt 9, Nt 10] [.blk pb (.cells [.slice (some ⟨tb, tq, none⟩) ts.length cap, .int .i64 ((ts.length - r.length : Nat) : Int), .int .i64 (e : Int)].toArray TT (0, 0))] st ?_
  clear st; intro w st hS
  refine pm hS ?_
  refine pnk hS ?_
  refine pf0 hS underlying91 sizeOf89 ?_
  refine pld hS 0 isAgg89 ?_
  refine pm hS ?_
  refine pnk hS ?_
  refine pfz hS 1 underlying91 sizeOf3 ?_
  refine pld hS 0 isAgg3 ?_
  refine vp_take rfl rfl rfl hS (fun w st => y_ia (k := (ts.length - r.length)) rfl rfl underlying89 sizeOf118 rfl (hlt)) ?_
  refine vp_take rfl rfl rfl hS (fun w st => y_ldca (tkL (here r)) rfl isAgg118 sizeOf118 rfl (fun i v hi => st.chg.cell (hc i v hi) (by simp))) ?_
  refine vp_do rfl (ests st 0 [_, _, _, _] sizeOf118 ?_)
  intro w st; dsimp only [setNth, wr] at st
  refine vp_next st.dr ?_; intro hS
  refine vp_end (vq_then (vk1 2 (vc_ret (vq_then_ret ?_))))
  refine vq_ret1 st (.inl rfl) results109 (by exact .cell 0 rfl rfl isAgg118 sizeOf118) ?_
  refine ⟨_, rfl, ?_⟩
  exact ⟨rfl, st.chg⟩
 intro hc12
 try simp only [dn] at hc12
 have h0 : r.length = 0 := by have := suf_len hr; omega
 refine kt (vk1 2 (sr ?_))
 refine vy (ybd (.agg #[_, _, _, _]) []) ?_
 refine vc_e (ests st 0 [_, _, _, _] sizeOf118 ?_)
 intro w st; dsimp only [setNth, wr] at st
 refine et (vk1 2 (vc_ret ?_))
 refine vq_ret1 st (.inl rfl) results109 (by exact .cell 0 rfl rfl isAgg118 sizeOf118) ?_
 refine ⟨_, rfl, ?_⟩
 rw [here_nil h0]; exact ⟨rfl, st.chg⟩
theorem pat_any (c : PCtx) (r : List Tok) (hr : r <:+ c.ts) (w : World) (hC : PCok c w) (hP : PAt c r w) : Ret Tryz.prog 112 [.pointer (some ⟨c.pb, 0, none⟩)] w fun v w' => v = .int .i64 (atT c.e r : Int) ∧ Chg [] w w' := by
 obtain ⟨pb, n0, oa, cap, ts, e, TT, R, g⟩ := c
 dsimp only [PAt, pcell] at hr hP ⊢
 refine ret_of [_] func112 rfl ntmps112 rfl ?_
 obtain ⟨w0, rfl⟩ : ∃ w0, w0 = w := ⟨_, rfl⟩
 have st := St.of1 [] hP
 refine sr ?_
 refine ya ?_
 refine et (vk1 0 (vc_seq (vc_seq ?_)))
 refine vdr0 Tryz.mixed [Yt 0, Yt 1, Yt 2, Yt 3, Yt 4, Yt 5, Yt 6, Yt 7, Yt 8, Yt 9] st ?_
 clear st; intro w st hS
 refine pm hS ?_
 refine pnk hS ?_
 refine pfz hS 1 underlying91 sizeOf3 ?_
 refine pld hS 0 isAgg3 ?_
 refine pm hS ?_
 refine pnk hS ?_
 refine pf0 hS underlying91 sizeOf89 ?_
 refine pld hS 0 isAgg89 ?_
 refine vp_take rfl rfl rfl hS (fun w st => y_lensl rfl underlying89) ?_
 refine vp_take rfl rfl rfl hS (fun w st => y_lss rfl rfl) ?_
 refine vp_end (vq_then (vk2 0 12 ?_))
 refine vif ?_ ?_
 ·intro hc12
  try simp only [dn] at hc12
  have hne : r ≠ [] := by rintro rfl; simp at hc12
  obtain ⟨tb, tq, hoa, hc⟩ := hC.tok hr hne
  have hlt := (suf_get hr hne).2
  dsimp only at hoa hc hlt
  subst hoa
  refine vc_seq ?_
  refine vdr0 Tryz.mixed [Yt 0, Yt 1, Yt 2, Yt 3, Yt 4, Yt 5, Yt 6, Yt 7, Yt 8, Yt 9, Yt 10, Yt 11] st ?_
  clear st; intro w st hS
  refine pm hS ?_
  refine pnk hS ?_
  refine pf0 hS underlying91 sizeOf89 ?_
  refine pld hS 0 isAgg89 ?_
  refine pm hS ?_
  refine pnk hS ?_
  refine pfz hS 1 underlying91 sizeOf3 ?_
  refine pld hS 0 isAgg3 ?_
  refine vp_take rfl rfl rfl hS (fun w st => y_ia (k := (ts.length - r.length)) rfl rfl underlying89 sizeOf118 rfl (hlt)) ?_
  refine vp_take rfl rfl rfl hS (fun w st => y_fa (k := 3) rfl underlying118 rfl rfl sizeOf3 rfl) ?_
  refine vp_take rfl rfl rfl hS (fun w st => y_ldc rfl isAgg3 (st.chg.cell (hc 3 _ rfl) (by simp))) ?_
  refine vp_take rfl rfl rfl hS (fun w st => y_as rfl) ?_
  refine vp_end (vq_then (vk1 2 (vc_ret (vq_then_ret ?_))))
  refine vr1 st results112 ?_
  rw [atT_cons hne]; exact ⟨rfl, st.chg⟩
 intro hc12
 try simp only [dn] at hc12
 have h0 : r.length = 0 := by have := suf_len hr; omega
 refine kt (vk1 0 (sr ?_))
 refine ym ?_
 refine ynk ?_
 refine yfz 2 underlying91 sizeOf3 ?_
 refine yl st 0 isAgg3 ?_
 refine ya ?_
 refine et (vk1 2 (vc_ret ?_))
 refine vr1 st results112 ?_
 rw [atT_nil h0]; exact ⟨rfl, st.chg⟩
theorem pis_any (c : PCtx) (s : List UInt8) (r : List Tok) (hr : r <:+ c.ts) (w : World) (hC : PCok c w) (hP : PAt c r w) : Ret Tryz.prog 90 [.pointer (some ⟨c.pb, 0, none⟩), str s] w fun v w' => v = .bool (isT s r) ∧ Chg [] w w' := by
 refine ret_of [_, _] func90 rfl ntmps90 rfl ?_
 have st := St.init w []
 obtain ⟨w0, rfl⟩ : ∃ w0, w0 = w := ⟨_, rfl⟩
 refine sr ?_
 refine ya ?_
 refine et (vk2 0 1 (sr ?_))
 refine ym ?_
 refine vc_e (e_call [_] rfl rfl call109 rfl (phere_any c r hr _ hC hP) ?_)
 rintro _ w ⟨rfl, cw⟩
 replace st := st.call0 cw
 refine vc_e (e_al (l := [_, _, _, _]) st rfl rfl zeroValue118 rfl ?_)
 intro b5 w hb5 st
 refine vc_e (ests st 0 [_, _, _, _] sizeOf118 ?_)
 intro w st; dsimp only [setNth, wr] at st
 refine et (vk2 1 5 (sr ?_))
 refine yfz 1 underlying118 sizeOf9 ?_
 refine yl st 0 isAgg9 ?_
 refine ym ?_
 refine vy (y_eqs rfl rfl) ?_
 refine vmb ?_ ?_
 focus
  intro hg12
  try simp only [dn] at hg12
  refine vy (y_fa0 rfl underlying118 rfl rfl sizeOf116 rfl) ?_
  refine yl st 0 isAgg116 ?_
  refine vy (y_eqi rfl rfl) ?_
  refine vmb ?_ ?_
  intro hg16
  try simp only [dn] at hg16
  iterate 3 refine vsk ?_
  refine ypt ?_
  rotate_left
  intro hg16
  try simp only [dn] at hg16
  refine vy (y_fa0 rfl underlying118 rfl rfl sizeOf116 rfl) ?_
  refine yl st 0 isAgg116 ?_
  refine vy (y_eqi rfl rfl) ?_
  refine ypf ?_
  all_goals
   refine ypt ?_
 rotate_left 2
 intro hg12
 try simp only [dn] at hg12
 iterate 8 refine vsk ?_
 refine ypf ?_
 all_goals
  refine ya ?_
  refine et (vk1 4 (vc_ret ?_))
  refine vr1 st results90 ?_
  have hk2 : ((here r).kind : Int) = 2 ↔ (here r).kind = 2 := by omega
  have hk4 : ((here r).kind : Int) = 4 ↔ (here r).kind = 4 := by omega
  refine ⟨?_, st.chg⟩
  unfold isT
  simp_all
theorem ptake_any (c : PCtx) (s : List UInt8) (r : List Tok) (hr : r <:+ c.ts) (w : World) (hC : PCok c w) (hP : PAt c r w) : Ret Tryz.prog 86 [.pointer (some ⟨c.pb, 0, none⟩), str s] w fun v w' => v = .bool (isT s r) ∧ PAt c (if isT s r = true then r.tail else r) w' ∧ Chg [c.pb] w w' := by
 refine ret_of [_, _] func86 rfl ntmps86 rfl ?_
 obtain ⟨w0, rfl⟩ : ∃ w0, w0 = w := ⟨_, rfl⟩
 have hP' := hP
 dsimp only [PAt, pcell] at hP
 have st := St.of1 [c.pb] hP
 have h20 := hC.len
 have hl := suf_len hr
 refine sr ?_
 refine ya ?_
 refine et (vk2 0 1 (vc_seq (sr ?_)))
 iterate 2 refine ym ?_
 refine vc_e (e_call [_, _] rfl rfl call90 rfl (pis_any c s r hr _ hC hP') ?_)
 rintro _ w ⟨rfl, cw⟩
 replace st := st.call0 cw
 refine vy (y_not rfl) ?_
 refine et (vk2 0 8 ?_)
 refine vif ?_ ?_
 ·intro hc8
  try simp only [dn] at hc8
  have hF : isT s r = false := by simpa using hc8
  refine sr ?_
  refine ya ?_
  refine et (vk1 4 (vc_ret (vq_then_ret ?_)))
  refine vr1 st results86 ?_
  rw [hF]
  exact ⟨rfl, st.res (i := 0) rfl, st.chg⟩
 intro hc8
 try simp only [dn] at hc8
 have hT : isT s r = true := by simpa using hc8
 have ht := tail_lt (isT_ne hT)
 have ht2 : r.tail.length = r.length - 1 := List.length_tail
 refine kt (vk1 0 (sr ?_))
 refine ym ?_
 refine ynk ?_
 refine yfz 1 underlying91 sizeOf3 ?_
 refine yl st 0 isAgg3 ?_
 refine vy (y_add rfl rfl (by omega : _ = ((c.ts.length - r.tail.length : Nat) : Int)) (by omega) (by omega)) ?_
 refine ynk ?_
 refine yfz 1 underlying91 sizeOf3 ?_
 refine vc_e (est st 0 sizeOf3 ?_)
 intro w st; dsimp only [setNth, wr] at st
 refine et (vc_keep [] trivial (sr ?_))
 refine ya ?_
 refine et (vk1 4 (vc_ret ?_))
 refine vr1 st results86 ?_
 rw [hT]
 exact ⟨rfl, st.res (i := 0) rfl, st.chg⟩
theorem pnext_any (c : PCtx) (r : List Tok) (hr : r <:+ c.ts) (hne : r ≠ []) (w : World) (hC : PCok c w) (hP : PAt c r w) : Ret Tryz.prog 111 [.pointer (some ⟨c.pb, 0, none⟩)] w fun v w' => v = .agg (tkL (here r)).toArray ∧ PAt c r.tail w' ∧ Chg [c.pb] w w' := by
 refine ret_of [_] func111 rfl ntmps111 rfl ?_
 obtain ⟨w0, rfl⟩ : ∃ w0, w0 = w := ⟨_, rfl⟩
 have hP' := hP
 dsimp only [PAt, pcell] at hP
 have st := St.of1 [c.pb] hP
 have h20 := hC.len
 have hl := suf_len hr
 have ht := tail_lt hne
 have ht2 : r.tail.length = r.length - 1 := List.length_tail
 replace st := st.call0 (Chg.refl _ _)
 have stP := hP'
 refine sr ?_
 refine vc_e (e_al (l := [_, _, _, _]) st rfl rfl zeroValue118 rfl ?_)
 intro b2 w hb2 st
 refine et (vk2 0 2 (sr ?_))
 refine ym ?_
 refine vc_e (e_call [_] rfl rfl call109 rfl (phere_any c r hr _ (hC.k1 st.chg) (st.res (i := 1) rfl)) ?_)
 rintro _ w ⟨rfl, cw⟩
 replace st := st.call0 cw
 refine vc_e (e_al (l := [_, _, _, _]) st rfl rfl zeroValue118 rfl ?_)
 intro b3 w hb3 st
 refine vc_e (ests st 0 [_, _, _, _] sizeOf118 ?_)
 intro w st; dsimp only [setNth, wr] at st
 refine et (vk3 0 2 3 (sr ?_))
 refine ym ?_
 refine ynk ?_
 refine yfz 1 underlying91 sizeOf3 ?_
 refine yl st 2 isAgg3 ?_
 refine vy (y_add rfl rfl (by omega : _ = ((c.ts.length - r.tail.length : Nat) : Int)) (by omega) (by omega)) ?_
 refine ynk ?_
 refine yfz 1 underlying91 sizeOf3 ?_
 refine vc_e (est st 2 sizeOf3 ?_)
 intro w st; dsimp only [setNth, wr] at st
 refine et (vk2 2 3 (sr ?_))
 refine yla st 0 [_, _, _, _] isAgg118 sizeOf118 ?_
 refine vc_e (ests st 1 [_, _, _, _] sizeOf118 ?_)
 intro w st; dsimp only [setNth, wr] at st
 refine et (vk1 2 (vc_ret ?_))
 refine vq_ret1 st (.inl rfl) results111 (by exact .cell 1 rfl rfl isAgg118 sizeOf118) ?_
 refine ⟨_, rfl, ?_⟩
 exact ⟨rfl, st.res (i := 2) rfl, st.chg⟩
theorem pfail_any (c : PCtx) (rule : Nat) (r : List Tok) (hr : r <:+ c.ts) (w : World) (hC : PCok c w) (hP : PAt c r w) (hR : c.R = 75) : RetP Tryz.prog 50 [.pointer (some ⟨c.pb, 0, none⟩), .int .i64 (rule : Int)] w (fun _ _ => False) (fun v w' => v = refV c (atT c.e r, rule) ∧ Chg [] w w') := by
 refine retp_of [_, _] func50 rfl ntmps50 rfl ?_
 have st := St.init w []
 obtain ⟨w0, rfl⟩ : ∃ w0, w0 = w := ⟨_, rfl⟩
 refine vc_region ?_
 refine ym ?_
 refine vc_e (e_call [_] rfl rfl call112 rfl (pat_any c r hr _ hC hP) ?_)
 rintro _ w ⟨rfl, cw⟩
 replace st := st.call0 cw
 refine ym ?_
 refine vy (ybd (.agg #[_, _]) [(0, _), (1, _)]) ?_
 refine vy (ybd (.agg #[_, _]) [(0, _)]) ?_
 refine vy (y_mki rfl underlying75) ?_
 refine vc_e (e_panicI rfl rfl (fun a ha => And.intro ha (Or.inr ⟨_, rfl, by rw [refV, hR], st.chg⟩)))
theorem pwant_any (c : PCtx) (ss : List (List UInt8)) (hss : ss.length ≤ 4) (lb n cap E : Nat) (hn : n = ss.length) (r : List Tok) (hr : r <:+ c.ts) (w : World) (hC : PCok c w) (hP : PAt c r w) (hR : c.R = 75)
    (hL : w.heap[lb]? = some (.cells (ss.map str).toArray E (0, 0))) (hne : lb ≠ c.pb) : RetP Tryz.prog 145 [.pointer (some ⟨c.pb, 0, none⟩), .slice (some ⟨lb, 0, none⟩) n cap] w
  (fun v w' => ∃ r', wantL c.e ss r = .ok r' ∧ r' <:+ r ∧ r'.length + ss.length ≤ r.length ∧ PAt c r' w' ∧ Chg [c.pb] w w') (PErr c (wantL c.e ss r) [c.pb] w) := by
 refine retp_of [_, _] func145 rfl ntmps145 rfl ?_
 obtain ⟨w0, rfl⟩ : ∃ w0, w0 = w := ⟨_, rfl⟩
 subst hn
 have hP' := hP
 dsimp only [PAt, pcell] at hP
 have st := St.of1 [c.pb] hP
 have h20 := hC.len
 have hl := suf_len hr
 refine sr ?_
 refine ym ?_
 refine vy (y_lensl rfl underlying50) ?_
 refine ym ?_
 refine et (vk4 0 6 7 8 (vc_block ?_))
 refine vc_loop (w0 := w0) (M := [c.pb]) (fun (y : Nat × List Tok) => [(0, .pointer (some ⟨c.pb, 0, none⟩)), (6, .slice (some ⟨lb, 0, none⟩) ss.length cap), (7, .int .i64 (ss.length : Int)), (8, .int .i64 (y.1 : Int))]) (fun y => [.blk c.pb (.cells (pcell c y.2).toArray c.T (0, 0))]) (fun y _ => y.1 ≤ ss.length ∧ y.2 <:+ r ∧ y.2.length + y.1 ≤ r.length ∧ wantL c.e ss r = wantL c.e (ss.drop y.1) y.2) (fun y => ss.length - y.1) (0, r) ⟨rfl, rfl, rfl, rfl, trivial⟩ st ⟨by simp, List.suffix_refl _, by simp, by simp⟩ ?_
 clear st
 rintro ⟨j, r1⟩ w ⟨hj, hr1, hl1, hw⟩ st
 dsimp only at hj hr1 hl1 hw st
 refine sr ?_
 refine vy (y_lss rfl rfl) ?_
 refine et (vk5 0 6 7 8 9 (vc_seq ?_))
 refine vif ?_ ?_
 ·intro hc9
  try simp only [dn] at hc9
  have hjl : j < ss.length := by omega
  obtain ⟨s, hs⟩ : ∃ s, ss[j]? = some s := ⟨_, List.getElem?_eq_getElem hjl⟩
  have hcell : w0.cell? ⟨lb, j * 1, none⟩ = some (str s) := cell_blk hL (by rw [nth_eq, Nat.mul_one]; simp [hs])
  have hd : ss.drop j = s :: ss.drop (j + 1) := by rw [List.drop_eq_getElem_cons hjl]; congr 1; rw [List.getElem?_eq_getElem hjl] at hs; exact Option.some.inj hs
  rw [hd] at hw
  have hr2 := hr1.trans hr
  refine kt (vk4 0 6 7 8 (vc_seq (vc_block (sr ?_))))
  refine vy (y_ia0 (k := j) rfl rfl underlying50 sizeOf9 rfl (by omega)) ?_
  refine vy (y_ldc rfl isAgg9 (st.chg.cell hcell (by simpa using hne))) ?_
  refine ya ?_
  refine et (vk5 0 5 6 7 8 (sr ?_))
  iterate 2 refine ym ?_
  refine vc_e (e_call [_, _] rfl rfl call86 rfl (ptake_any c s r1 hr2 _ (hC.k1 st.chg) (st.res (i := 0) rfl)) ?_)
  rintro _ w ⟨rfl, hP1, cw⟩
  replace st := st.prs 0 rfl cw (.inl (.head _)) hP1
  dsimp only [setNth] at st
  refine vy (y_not rfl) ?_
  refine et (vk5 0 6 7 8 15 ?_)
  refine vif ?_ ?_
  ·intro hc15
   try simp only [dn] at hc15
   have hF : isT s r1 = false := by simpa using hc15
   simp only [hF, Bool.false_eq_true, if_false] at st
   refine vc_region ?_
   refine ym ?_
   refine vc_e (e_callp [_, _] rfl rfl call50 rfl (pfail_any c 2 r1 hr2 _ (hC.k1 st.chg) (st.res (i := 0) rfl) hR) (by rintro _ w' ⟨rfl, ch⟩ a ha; exact And.intro ha (Or.inr ⟨_, rfl, (atT c.e r1, 2), by rw [hw]; simp only [wantL, want_neg hF], rfl, st.chg.trans ch.of_nil⟩)) (fun _ _ h => h.elim))
  intro hc15
  try simp only [dn] at hc15
  have hT : isT s r1 = true := by simpa using hc15
  simp only [hT, if_true] at st
  have ht := tail_lt (isT_ne hT)
  refine vc_code_skip (vq_block (vq_then (vk4 0 6 7 8 (vc_region ?_))))
  refine vy (y_add rfl rfl (by omega : _ = ((j + 1 : Nat) : Int)) (by omega) (by omega)) ?_
  refine ym ?_
  refine vc_end ?_
  refine vq_again (j + 1, r1.tail)  ⟨rfl, rfl, rfl, rfl, trivial⟩ st ?_ ?_
  ·exact ⟨by dsimp only; omega, (List.tail_suffix _).trans hr1, by dsimp only; omega, by rw [hw]; simp only [wantL, want_pos hT]⟩
  dsimp only; omega
 intro hc9
 try simp only [dn] at hc9
 refine vc_exit (vq_then_exit (vq_then_exit (vq_block_exit ?_)))
 refine vq_ret0 (.inr rfl) results145 ?_
 refine .inl ⟨_, rfl, ?_⟩
 obtain rfl : j = ss.length := by omega
 rw [List.drop_length] at hw
 exact ⟨r1, hw, hr1, hl1, st.res (i := 0) rfl, st.chg⟩
end Go.Proofs.YtnmhlpnapgojjaaGreatDoor.Pq

