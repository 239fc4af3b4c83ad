/- A part of the proof: contracts of functions and plain laws; each theorem says its own conditions. -/
import Derived.Test.YtggnfanphcaamaaGreatDoorParseOwnK1
import Derived.Test.YtggnfanphcaamaaGreatDoorParseOwnK9
import Derived.Test.YtggnfanphcaamaaGreatDoorParseOwnK0
import Derived.Test.YtggnfanphcaamaaGreatDoorParseOwnK2
import Derived.Test.YtggnfanphcaamaaGreatDoorParseOwnK6
set_option linter.unusedVariables false
set_option linter.unusedSimpArgs false
namespace Go.Proofs.YtggnfanphcaamaaGreatDoor
open Go.RowKit Sx LexS _root_.Go.Proofs.Tryz
theorem Tryz.info82 : Tryz.prog.info? 82 = some Tryz.t82 := by kernel_rfl
def toksL (l : List Tok) : List Value := l.flatMap tokL
theorem toksL_snoc (l : List Tok) (t : Tok) : toksL (l ++ [t]) = toksL l ++ tokL t := by simp [toksL]
def NxRel (s : List UInt8) (i : Nat) (k : Int) (t : List UInt8) (wd a : Int) (ok : Bool) (j fa fr : Int) : Prop :=
 (ok = true ∧ ∃ x : Tok, i + skip (s.drop i) < s.length ∧ tokAt (s.drop (i + skip (s.drop i))) (i + skip (s.drop i)) = .tok x ∧ k = x.kind ∧ t = x.text ∧ wd = x.word ∧ a = x.at_ ∧ j = ((i + skip (s.drop i) + x.text.length : Nat) : Int) ∧ fa = 0 ∧ fr = 0) ∨
 (ok = false ∧ s.length ≤ i + skip (s.drop i) ∧ fa = 0 ∧ fr = 0) ∨
 (ok = false ∧ ∃ rule p : Nat, i + skip (s.drop i) < s.length ∧ tokAt (s.drop (i + skip (s.drop i))) (i + skip (s.drop i)) = .bad rule p ∧ fa = p ∧ fr = rule)
theorem nx_flat {b : Nat} {s : List UInt8} {i : Nat} {v : Value} {w' : World} (h : NxPost b s i v w') :
    ∃ k t wd a ok j fa fr, v = .tuple [.agg (tok4 k t wd a).toArray, .bool ok].toArray ∧ w'.heap[b]? = some (scn s j fa fr) ∧ NxRel s i k t wd a ok j fa fr := by
 unfold NxPost at h
 split at h
 ·rename_i hle
  obtain ⟨h1, j, h2⟩ := h
  exact ⟨0, [], 0, 0, false, j, 0, 0, h1, h2, .inr (.inl ⟨rfl, hle, rfl, rfl⟩)⟩
 ·rename_i hlt
  split at h
  ·rename_i x hx
   obtain ⟨h1, h2⟩ := h
   exact ⟨_, _, _, _, true, _, 0, 0, h1, h2, .inl ⟨rfl, x, by omega, hx, rfl, rfl, rfl, rfl, rfl, rfl, rfl⟩⟩
  ·rename_i rule p hx
   obtain ⟨h1, j, h2⟩ := h
   exact ⟨0, [], 0, 0, false, j, _, _, h1, h2, .inr (.inr ⟨rfl, rule, p, by omega, hx, rfl, rfl⟩)⟩
/-- what 'Scan' hands back -/
def ScanPost (s : List UInt8) (w : World) (v : Value) (w' : World) : Prop :=
 Chg [] w w' ∧ ∃ oa cap, v = .tuple [.slice oa (scanRes s).1.length cap, .int .i64 ((scanRes s).2.1 : Int), .agg [.int .i64 ((scanRes s).2.2.1 : Int), .int .i64 ((scanRes s).2.2.2 : Int)].toArray].toArray ∧
  w'.ownsRow w.heap.size 82 4 (.slice oa (scanRes s).1.length cap) (scanRes s).1.length (toksL (scanRes s).1)
set_option maxHeartbeats 1000000 in
theorem scan_any (s : List UInt8) (w : World) : Ret Tryz.prog 22 [str s] w (ScanPost s w) := by
 refine ret_of [_] func22 rfl ntmps22 rfl ?_
 have st := St.init w []
 refine sr ?_
 iterate 2 refine ya ?_
 refine vc_e (e_al (l := [_, _]) st rfl rfl zeroValue28 rfl ?_)
 intro b4 w hb4 st
 refine et (vk2 0 4 (vc_seq (sr ?_)))
 refine ym ?_
 refine vy (y_lens rfl underlying9) ?_
 refine vy (y_gtr rfl rfl) ?_
 refine et (vk3 0 4 11 ?_)
 refine vif ?_ ?_
 ·intro hc11
  try simp only [dn] at hc11
  refine sr ?_
  refine vy (y_bld (.agg #[_, _]) [] rfl (fun w => by simp [Instr.build, go_sem] <;> repeat' constructor)) ?_
  iterate 2 refine ya ?_
  refine vc_e (e_sts (vs := [_, _]) st 0 rfl rfl rfl rfl rfl sizeOf28 rfl rfl (by (right; assumption)) ?_)
  intro w st; dsimp only [setNth, wr] at st
  refine et (vk3 2 3 4 (vc_ret (vq_then_ret ?_)))
  refine vq_ret3 st (.inl rfl) results22 (.tmp rfl) (.tmp rfl) (by exact .cell 0 rfl rfl isAgg28 sizeOf28) ?_
  refine ⟨_, rfl, ?_⟩
  have e : scanRes s = ([], 4, 0, 0) := by unfold scanRes; rw [if_pos (by omega)]
  refine ⟨st.chg, none, 0, ?_, ?_⟩
  ·rw [e]; rfl
  rw [e]; exact World.ownsRow_nil _ _ _ _
 intro hc11
 try simp only [dn] at hc11
 replace st := st.ownNil 82 4
 refine kt (vk2 0 4 (sr ?_))
 refine ym ?_
 refine vy (y_bld (.agg #[_, _, _, _]) [(0, _)] rfl (fun w => by simp [Instr.build, go_sem] <;> repeat' constructor)) ?_
 refine vc_e (e_bx (l := [_, _, _, _]) st rfl rfl rfl rfl ?_)
 intro b15 w hb15 st
 refine ya ?_
 refine et (vk2 4 5 (sr ?_))
 refine ya ?_
 refine et (vk3 4 5 6 (vc_seq (vc_block ?_)))
 refine vc_loop (w0 := _) (M := _) (fun (x : List Tok × Nat × Option Addr × Nat) => [(4, .pointer (some ⟨b4, 0, none⟩)), (5, .pointer (some ⟨b15, 0, none⟩)), (6, .slice x.2.2.1 x.1.length x.2.2.2)]) (fun x => [.blk b15 (scn s x.2.1 0 0), .own (.slice x.2.2.1 x.1.length x.2.2.2) 82 4 x.1.length (toksL x.1), .blk b4 (.cells [.int .i64 0, .int .i64 0].toArray 28 (0, 0))]) (fun x _ => x.2.1 ≤ s.length ∧ x.1.length ≤ x.2.1 ∧ (front s).1 = x.1 ++ (scanA (s.drop x.2.1) x.2.1).1 ∧ (front s).2 = (scanA (s.drop x.2.1) x.2.1).2) (fun x => s.length - x.2.1) ([], 0, none, 0) ⟨rfl, rfl, rfl, trivial⟩ st ⟨by simp, by simp, by simp [front_eq], by simp [front_eq]⟩ ?_
 rintro ⟨l, i, oa, cap⟩ w ⟨hi, hli, hf1, hf2⟩ st
 dsimp only at *
 refine vc_block (sr ?_)
 refine ym ?_
 refine vc_e (e_call [_] rfl rfl call40 rfl (next_any b15 s i _ (st.res (i := 0) rfl) hi (by omega)) ?_)
 rintro _ w ⟨cw, hp⟩
 obtain ⟨k, t, wd, a, ok, j, fa, fr, rfl, hw, hrel⟩ := nx_flat hp
 replace st := st.turn (i := 0) (r' := .blk b15 _) rfl rfl rfl cw (.inr (by assumption)) hw
 dsimp only [setNth] at st
 refine ym ?_
 iterate 2 refine vy (y_ext rfl rfl) ?_
 refine vc_e (e_al (l := [_, _, _, _]) st rfl rfl zeroValue82 rfl ?_)
 intro b7 w hb7 st
 refine vc_e (e_sts (vs := [_, _, _, _]) st 0 rfl rfl rfl rfl rfl sizeOf82 rfl rfl (by (right; assumption)) ?_)
 intro w st; dsimp only [setNth, wr] at st
 refine ya ?_
 refine et (vk5 4 5 6 7 8 (vc_seq (sr ?_)))
 refine ym ?_
 refine vy (y_not rfl) ?_
 refine et (vk5 4 5 6 7 22 ?_)
 refine vif ?_ ?_
 ·intro hc22
  try simp only [dn] at hc22
  refine vc_exit (vq_then_exit (vq_block_other rfl (vq_then_exit (vq_block_exit (vq_then (vk3 4 5 6 (vc_seq (sr ?_))))))))
  refine ym ?_
  refine ynk ?_
  refine yfz 2 underlying79 sizeOf28 ?_
  refine vy (y_fa (k := 1) rfl underlying28 rfl rfl sizeOf3 rfl) ?_
  refine yl st 1 isAgg3 ?_
  refine vy (y_nei rfl rfl) ?_
  refine et (vk4 4 5 6 32 ?_)
  refine vif ?_ ?_
  ·intro hc32
   try simp only [dn] at hc32
   refine vc_seq ?_
   refine vc_draw Tryz.mixed [(0, true), (1, true), (2, true), (3, true), (4, true), (5, true), (6, false)] (fun w => St _ _ [.blk b15 (scn s j fa fr)] w) st.dr (by kernel_rfl) (by repeat (first | exact okQ_body | refine okQ_then ?_ | refine okQ_block ?_)) rfl (by kernel_rfl) ?_
   intro w cd; replace st := st.call0 cd; clear cd
   have hS : St _ _ [.blk b15 (scn s j fa fr)] w := st.dr
   refine pm hS ?_
   refine pnk hS ?_
   refine pfz hS 2 underlying79 sizeOf28 ?_
   refine vp_take rfl rfl rfl hS (fun w st => y_lda (vs := [_, _]) st 0 rfl isAgg28 sizeOf28 rfl rfl) ?_
   iterate 2 refine vp_take rfl rfl rfl hS (fun w st => y_as rfl) ?_
   refine vp_do rfl (e_sts (vs := [_, _]) st 3 rfl rfl rfl rfl rfl sizeOf28 rfl rfl (by (right; assumption)) ?_)
   intro w st; dsimp only [setNth, wr] at st
   refine vp_next st.dr ?_; intro hS
   refine vp_end (vq_then (vk3 2 3 4 (vc_ret (vq_then_ret ?_))))
   refine vq_ret3 st (.inl rfl) results22 (.tmp rfl) (.tmp rfl) (by exact .cell 3 rfl rfl isAgg28 sizeOf28) ?_
   refine ⟨_, rfl, ?_⟩
   rcases hrel with ⟨h, _⟩ | ⟨_, _, _, h⟩ | ⟨_, rule, p, hlt, hx, rfl, rfl⟩
   ·simp [h] at hc22
   ·exact absurd h hc32
   ·have hsc := scanA_bad (r := s.drop i) (i := i) (by simp; omega) (by rw [List.drop_drop]; exact hx)
    have e : scanRes s = ([], 20, p, rule) := by unfold scanRes; rw [if_neg (by omega), hf2, hsc]
    refine ⟨st.chg, none, 0, ?_, ?_⟩
    ·rw [e]; rfl
    rw [e]; exact World.ownsRow_nil _ _ _ _
  intro hc32
  try simp only [dn] at hc32
  refine kt (vk2 4 6 (sr ?_))
  refine ym ?_
  refine vy (y_bld (.agg #[_, _]) [] rfl (fun w => by simp [Instr.build, go_sem] <;> repeat' constructor)) ?_
  iterate 2 refine ya ?_
  refine vc_e (e_sts (vs := [_, _]) st 3 rfl rfl rfl rfl rfl sizeOf28 rfl rfl (by (right; assumption)) ?_)
  intro w st; dsimp only [setNth, wr] at st
  refine et (vk3 2 3 4 (vc_ret ?_))
  refine vq_ret3 st (.inl rfl) results22 (.tmp rfl) (.tmp rfl) (by exact .cell 3 rfl rfl isAgg28 sizeOf28) ?_
  refine ⟨_, rfl, ?_⟩
  rcases hrel with ⟨h, _⟩ | ⟨_, hle, _, h⟩ | ⟨_, rule, p, hlt, hx, rfl, rfl⟩
  ·simp [h] at hc22
  ·have hsc := scanA_end (r := s.drop i) (i := i) (by simp; omega)
   have e : scanRes s = (l, 0, 0, 0) := by unfold scanRes; rw [if_neg (by omega), hf2, hsc, hf1, hsc]; simp
   refine ⟨st.chg, oa, cap, ?_, ?_⟩
   ·rw [e]; rfl
   rw [e]; exact st.res (i := 2) rfl
  ·have := bad_rule hx; omega
 intro hc22
 try simp only [dn] at hc22
 refine kt (vk4 4 5 6 7 (vc_region ?_))
 refine ym ?_
 refine yla st 0 [_, _, _, _] isAgg82 sizeOf82 ?_
 refine vc_e (e_bs1 (l := [_, _, _, _]) st rfl rfl rfl rfl underlying45 sizeOf82 rfl rfl rfl zeroValue82 ?_)
 intro b25 w hb25 st
 refine vc_e (e_app (bytes := 40) st 3 0 rfl rfl rfl rfl rfl rfl underlying45 Tryz.info82 rfl rfl rfl rfl rfl (by simp) rfl rfl (by unfold maxLen; omega) (by omega) ?_)
 intro oa26 cap26 w st; dsimp only [setNth] at st
 refine ya ?_
 refine vc_end (vq_block ?_)
 rcases hrel with ⟨_, x, hlt, hx, rfl, rfl, rfl, rfl, rfl, rfl, rfl⟩ | ⟨h, _⟩ | ⟨h, _⟩
 ·have hx1 := tok_len hx
  have hxl : x.text.length ≤ s.length - (i + skip (List.drop i s)) := by have h := congrArg List.length hx1.2.1; simp at h; omega
  have hsc := scanA_tok (r := s.drop i) (i := i) (by simp; omega) (by rw [List.drop_drop]; exact hx)
  rw [List.drop_drop, ← Nat.add_assoc] at hsc
  refine vq_again (l ++ [x], i + skip (List.drop i s) + x.text.length, oa26, cap26) ⟨rfl, rfl, by simp only [List.length_append, List.length_cons, List.length_nil]; rfl, trivial⟩ ?_ ⟨by dsimp only; omega, by simp; omega, ?_, ?_⟩ (by dsimp only; omega)
  ·simp only [List.length_append, List.length_cons, List.length_nil, toksL_snoc]
   exact st.dr
  ·rw [hf1, hsc]; simp
  rw [hf2, hsc]
 ·simp [h] at hc22
 ·simp [h] at hc22
end Go.Proofs.YtggnfanphcaamaaGreatDoor


/- The tokens of a text: how many, and of what kinds. -/
namespace ParS
open Sx LexS
theorem numV_le {l : List UInt8} {n : Nat} (h : numV l = some n) : n ≤ 9223372036854775807 := by
  unfold numV at h
  split at h
  · cases h
  · rename_i hc
    cases h
    rw [not_or, not_or, not_or] at hc
    omega
theorem scan_ok : ∀ (T : List Tok) (r : List UInt8) (i : Nat) (f : Option (Nat × Nat)), scanA r i = (T, f) → T.length ≤ r.length ∧ ∀ t ∈ T, (t.kind = 1 → isName t.text = true) ∧ t.word ≤ 9223372036854775807 ∧ t.at_ ≤ i + r.length
  | [], r, i, f, h => ⟨Nat.zero_le _, by simp⟩
  | t :: T, r, i, f, h => by
    obtain ⟨h1, h2, h3⟩ := scan_inv h
    obtain ⟨h4, h5, h6⟩ := tok_len h2
    obtain ⟨h7, h8⟩ := scan_ok T _ _ _ h3
    rw [List.length_drop] at h7 h8
    have h9 : t.text.length ≤ r.length - skip r := by
      have := congrArg List.length h5
      rw [List.length_take, List.length_drop] at this
      omega
    refine ⟨by simp only [List.length_cons]; omega, fun x hx => ?_⟩
    rcases List.mem_cons.1 hx with rfl | hx
    · refine ⟨fun hk => ?_, ?_, by omega⟩
      · rcases tok_right h2 with h | h | h | h
        · exact h.2.1
        · omega
        · omega
        · omega
      · rcases tok_right h2 with h | h | h | h
        · omega
        · omega
        · exact numV_le h.2
        · omega
    · obtain ⟨a, b, c⟩ := h8 x hx
      exact ⟨a, b, by omega⟩
theorem front_ok {s : List UInt8} {T : List Tok} {f : Option (Nat × Nat)} (h : front s = (T, f)) : T.length ≤ s.length ∧ ∀ t ∈ T, (t.kind = 1 → isName t.text = true) ∧ t.word ≤ 9223372036854775807 ∧ t.at_ ≤ s.length := by
  rw [front_eq] at h
  have := scan_ok T s 0 f h
  simpa using this
end ParS


/- A function that defers a closure that recovers. -/
namespace Sx
open Go Go.RowKit
section
variable {P : Program} {n : Fr} {L : List Oper} {Q : Exit → Act → World → Prop} {kn : Kn} {w w0 : World} {M : List Nat} {hs : List Res} {rest : List Oper}
variable {d ty : Nat} {pos : String} {aft : Array Edge} {g : Option (Nat × Bool)}
variable {N : Act → World → Prop}
/-- where a callee's panic goes on, the frame known -/
abbrev PanK (n : Fr) (kn : Kn) (Q : Exit → Act → World → Prop) (v : Value) (w : World) : Prop := ∀ a : Act, K n kn a → Q (.panic (pch v)) a w
theorem e_callk {f : FuncId} {args : Array Operand} {tys : Array TypeId} (vals : List Value) {Φ Ψ : Value → World → Prop} (hw : gd L kn g = some true) (hd : okDst n (some d) = true)
    (hcall : ∀ (az : Array Value) w, (callFunc f az).run P w = .ok (.enter f az) w)
    (hv : args.toList.map (evO kn) = vals.map some)
    (c : RetP P f vals w Φ Ψ) (pan : ∀ v w', Ψ v w' → PanK n kn Q v w') (next : ∀ v w', Φ v w' → vN n N ((d, v) :: kn) w') :
    vS P n L Q ⟨some d, .call ⟨.value (.func f), args, tys⟩, ty, pos, aft, g⟩ N kn w := by
  intro a ha
  rw [if_pos (ha.gd hw)]
  refine .inl ?_
  unfold Oper.wp
  have hrun : (execOp a.eval ⟨some d, .call ⟨.value (.func f), args, tys⟩, ty, pos, aft, g⟩).run P w = .ok (.enter f vals.toArray) w := by
    have hargs := evs_map ha hv
    simp only [execOp, resolve, hargs, Act.eval]
    simp [Deferred.ofValue, invoke, hcall]
  rw [hrun]
  refine Calls.mono c ?_
  rintro e w' (⟨v, rfl, hv⟩ | ⟨v, rfl, hv⟩)
  · exact next v w' hv _ (ha.put hd v)
  · exact pan v w' hv a ha
/-- 'defer' of a closure -/
theorem e_deferV {x : Operand} {f : FuncId} {cap : List Value} {tys : Array TypeId} {m : Nat} {ds : List Deferred} (hn : n = (m, ds)) (hw : gd L kn g = some true)
    (hx : evO kn x = some (.func (.func f) #[] cap.toArray)) (next : vN (m, ⟨.fn (.func f) cap.toArray, #[]⟩ :: ds) N kn w) :
    vS P n L Q ⟨none, .defer ⟨.value x, #[], tys⟩, ty, pos, aft, g⟩ N kn w :=
  e_defer hn hw rfl (fun a ha => by
    simp only [execOp, resolve, ha.ev hx]
    simp [Deferred.ofValue]) next
theorem vqd_post {m : Nat} {fn : Func} {R : Ending → World → Prop} {e : Exit} {v : Value} (he : e = .ret ∨ e = .normal) (hr : ∀ a, K (m, []) kn a → (results fn a.tmps).run P w = .ok v w) (hR : R (.returned v) w) : vcQ (m, []) (bodyPostD P fn R) e kn w := by
  intro a ha
  have key : Leaves P fn a.tmps R a.defers .returning w := by rw [ha.defers]; exact ⟨v, hr a ha, hR⟩
  rcases he with rfl | rfl <;> exact key
theorem results3 {fn : Func} {r1 r2 r3 : ResultVar} {v1 v2 v3 : Value} {m : Nat} {ds : List Deferred} (st : St w0 M hs w) (hf : fn.results = #[r1, r2, r3]) (h1 : ResV P hs kn r1 v1) (h2 : ResV P hs kn r2 v2) (h3 : ResV P hs kn r3 v3) :
    ∀ a, K (m, ds) kn a → (results fn a.tmps).run P w = .ok (.tuple #[v1, v2, v3]) w := fun a ha => by
  simp [results_eq, hf, h1.run st ha, h2.run st ha, h3.run st ha]
theorem retd_of {m : Nat} {f : FuncId} {fn : Func} {c : Code} (vals : List Value) {Φ : Value → World → Prop} (hf : P.funcs[f]? = some fn) (hb : fn.body = some c) (hn : fn.ntmps = m) (hle : Nat.ble vals.length m = true)
    (h : vcC P (m, []) c (bodyPostD P fn fun e w' => ∃ v, e = .returned v ∧ Φ v w') (enumKn 0 vals) w) : Ret P f vals w Φ := vcd_enter hf hb hn hle h
/-- a panic's end, where a deferred closure recovers -/
theorem pan_leave {m : Nat} {fn : Func} {R : Ending → World → Prop} {f : FuncId} {cap : List Value} {v : Value} {Φ : World → Prop}
    (hcall : ∀ (az : Array Value) w, (callFunc f az).run P w = .ok (.enter f az) w)
    (h : DefCatch P f cap.toArray v w Φ) (hres : ∀ w', Φ w' → ∃ r, (∀ a, K (m, [⟨.fn (.func f) cap.toArray, #[]⟩]) kn a → (results fn a.tmps).run P w' = .ok r w') ∧ R (.returned r) w') :
    PanK (m, [⟨.fn (.func f) cap.toArray, #[]⟩]) kn (bodyPostD P fn R) v w := by
  intro a ha
  show Leaves P fn a.tmps R a.defers (.panicking (pch v)) w
  rw [ha.defers]
  refine leaves_cons (f := f) (args := cap.toArray) (by simp) (by simp [invoke, hcall]) (h.mono ?_)
  rintro e u' w' ⟨⟨x, rfl⟩, rfl, hΦ⟩
  obtain ⟨r, h1, h2⟩ := hres w' hΦ
  exact ⟨r, h1 a ha, h2⟩
theorem e_bxn (st : St w0 M hs w) {x : Operand} {T : Nat} {v : Value} {l : List Value} (hw : gd L kn g = some true) (hd : okDst n (some d) = true)
    (hx : evO kn x = some v) (hl : v.cells.toList = l)
    (next : ∀ b w', b = w.heap.size → w0.heap.size ≤ b → St w0 M (.blk b (.cells l.toArray T (0, 0)) :: hs) w' → vN n N ((d, .pointer (some ⟨b, 0, none⟩)) :: kn) w') : vS P n L Q (⟨some d, .box T x, ty, pos, aft, g⟩) N kn w :=
  e_new st (v := .pointer (some ⟨w.heap.size, 0, none⟩)) (l := l) (E := T) hw hd (fun a ha => by
    have : v.cells = l.toArray := by rw [← hl]
    simp only [execOp, ha.ev hx, Instr.box, ← this]
    rfl) (fun b w' e hb st' => by subst e; exact next _ w' rfl hb st')
theorem y_ta {x : Operand} {T U : Nat} {v : Value} {fs : Array Field} (hx : evO kn x = some (.iface T v)) (ht : P.underlying T = some (.struct fs)) : Y P n kn w ⟨some d, .typeAssert x U T false, ty, pos, aft, g⟩ v := fun a ha => by
  simp only [execOp, ha.ev hx]
  simp [Instr.typeAssert, run_underlying ht]
/-- a field that is a struct, of a struct that is a value -/
theorem y_fldA {T i off sz : Nat} {x : Operand} {cs vs : List Value} {fs : Array Field} {f : Field} (hx : evO kn x = some (.agg cs.toArray)) (ht : P.underlying T = some (.struct fs)) (hf : nth fs.toList i = some f) (ho : f.offset = off)
    (ha : ∀ w, (Go.isAgg f.type).run P w = .ok true w) (hs : ∀ w, (Go.sizeOf f.type).run P w = .ok sz w) (hv : takeN sz (dropN cs off) = some vs) : Y P n kn w ⟨some d, .field T x i, ty, pos, aft, g⟩ (.agg vs.toArray) := fun a hk => by
  subst ho
  rw [nth_eq] at hf
  have hf' : fs[i]? = some f := by simpa using hf
  simp only [execOp, hk.ev hx]
  simp [Instr.field, run_underlying ht, hf', asAgg, run_partA ha hs hv]
end
/-- a deferred closure's post does not look at the temporaries of a panic -/
theorem okQ_bodyS {P : Program} {fn : Func} {c0 : Frame} {cs cs' : List Frame} {R : Ending → FrameMode → World → Prop} : okQ (fun e a w => bodyPostS P fn c0 cs R e a cs' w) := fun c a a' w h hq => by
  obtain ⟨h1, h2⟩ := hq
  exact ⟨h ▸ h1, h2⟩
end Sx
namespace Sx
open Go Go.RowKit
theorem St.of3 {w : World} {b c e : Nat} {o p q : Obj} (M : List Nat) (h : w.heap[b]? = some o) (h' : w.heap[c]? = some p) (h'' : w.heap[e]? = some q) (h1 : b ≠ c) (h2 : b ≠ e) (h3 : c ≠ e) : St w M [.blk b o, .blk c p, .blk e q] w :=
  ⟨Chg.refl M w, List.pairwise_cons.2 ⟨by simp [Res.at?, h1, h2], List.pairwise_cons.2 ⟨by simp [Res.at?, h3], List.pairwise_singleton _ _⟩⟩, by simp [Res.holds, h, h', h'']⟩
/-- the frame of a deferred closure, as far as it is known -/
theorem K.of {m : Nat} {kn : Kn} {t : Array Value} (hs : t.size = m) (h : ∀ i v, find kn i = some v → t[i]? = some v) : K (m, []) kn { tmps := t, defers := [] } := ⟨rfl, hs, h⟩
theorem wp_of_vc {P : Program} {n : Fr} {c : Code} {Q : Exit → Act → World → Prop} {kn : Kn} {a : Act} {w : World} (ha : K n kn a) (h : vcC P n c Q kn w) : c.wp P Q a w := h a ha
/-- a region none of whose operations ends in a panic -/
def noPan (Q : Exit → Act → World → Prop) : Exit → Act → World → Prop := fun e a w => (match e with | .panic _ => False | _ => True) ∧ Q e a w
theorem okQ_noPan {Q : Exit → Act → World → Prop} : okQ (noPan Q) := fun _ _ _ _ _ hq => hq.1.elim
theorem vc_noPan {P : Program} {n : Fr} {c : Code} {Q : Exit → Act → World → Prop} {kn : Kn} {w : World} (h : vcC P n c (noPan Q) kn w) : vcC P n c Q kn w := fun a ha => Code.wp_mono (fun _ _ _ h => h.2) (h a ha)
theorem vq_noPan {n : Fr} {Q : Exit → Act → World → Prop} {kn : Kn} {w : World} (h : vcQ n Q .normal kn w) : vcQ n (noPan Q) .normal kn w := fun a ha => ⟨trivial, h a ha⟩
end Sx


namespace Go.Proofs.YtggnfanphcaamaaGreatDoor
open Go.RowKit Sx LexS ParS _root_.Go.Proofs.Tryz
theorem toks_chunk : ∀ {ts : List Tok} {j : Nat} {t : Tok}, ts[j]? = some t → ((toksL ts).drop (j * 4)).take 4 = tkL t
 | [], j, t, h => by simp at h
 | x :: r, 0, t, h => by
  simp only [List.getElem?_cons_zero, Option.some.injEq] at h
  subst h
  simp [toksL, tokL]
 | x :: r, j + 1, t, h => by
  have e : toksL (x :: r) = tokL x ++ toksL r := by simp [toksL]
  rw [e, show (j + 1) * 4 = (tokL x).length + j * 4 by simp [tokL]; omega, ← List.drop_drop, List.drop_left]
  exact toks_chunk (by simpa using h)
/-- a parser at a text's beginning -/
structure PNew (s : List UInt8) (n : Nat) (c : PCtx) (w' : World) : Prop where
 R : c.R = 40
 g : c.g = 1
 ts : c.ts = (front s).1
 e : c.e = s.length
 n0 : c.n0 = c.pb
 own : w'.ownsRow n 82 4 (.slice c.oa c.ts.length c.cap) c.ts.length (toksL c.ts)
 at_ : PAt c c.ts w'
 le : n ≤ c.pb
 lt : ∀ b ∈ obk c.oa, b < c.pb
 slen : s.length ≤ 65536
theorem PNew.ok {s : List UInt8} {n base : Nat} {c : PCtx} {r : List Tok} {w w' : World} (h : PNew s n c w) (hrow : w'.ownsRow base 82 4 (.slice c.oa c.ts.length c.cap) c.ts.length (toksL c.ts)) (hs : SigAt 1 w') (hp : PAt c r w') (h0 : 1 < n) : PCok c w' := by
 obtain ⟨hlen, hok⟩ := front_ok (s := s) (T := (front s).1) (f := (front s).2) rfl
 rw [← h.ts] at hlen hok
 have := h.slen
 refine ⟨?_, by rw [h.n0]; exact Nat.le_refl _, by rw [h.g, h.n0]; exact Nat.lt_of_lt_of_le h0 h.le, by omega, by rw [h.e]; omega, by rw [h.g]; exact hs, by rw [h.n0]; exact Nat.le_of_lt (Array.getElem?_eq_some_iff.1 hp).1, fun t ht => (hok t ht).2.1⟩
 refine (rowC_own (S := (· < c.n0)) (owns_mono hrow (fun b _ => Nat.zero_le _)) (fun b hb => by rw [h.n0]; exact h.lt b hb)).imp id fun ⟨g, off, e1, hb, hl, hc⟩ => ⟨g, off, e1, hb, hl, fun j hj => ?_⟩
 have := hc j hj
 dsimp only at this
 rw [toks_chunk (List.getElem?_eq_getElem hj)] at this
 simpa only [List.getD, List.getElem?_eq_getElem hj, Option.getD_some] using this
def BegunPost (s : List UInt8) (w : World) (v : Value) (w' : World) : Prop := Chg [] w w' ∧
 ((65536 < s.length ∧ v = .tuple #[.pointer none, .int .i64 4, .agg #[.int .i64 0, .int .i64 0]]) ∨
  (s.length ≤ 65536 ∧ ∃ rule p : Nat, (front s).2 = some (rule, p) ∧ v = .tuple #[.pointer none, .int .i64 30, .agg #[.int .i64 (p : Int), .int .i64 1]]) ∨
  (s.length ≤ 65536 ∧ (front s).2 = none ∧ ∃ c, PNew s w.heap.size c w' ∧ v = .tuple #[.pointer (some ⟨c.pb, 0, none⟩), .int .i64 0, .agg #[.int .i64 0, .int .i64 0]]))

theorem begun_any (s : List UInt8) (w : World) (hs : SigAt 1 w) : Ret Tryz.prog 11 [str s] w (BegunPost s w) := by
 refine ret_of [_] func11 rfl ntmps11 rfl ?_
 have st := St.init w []
 obtain ⟨w0, rfl⟩ : ∃ w0, w0 = w := ⟨_, rfl⟩
 refine sr ?_
 iterate 2 refine ya ?_
 refine vc_e (e_al (l := [_, _]) st rfl rfl zeroValue28 rfl ?_)
 intro b4 w hb4 st
 refine et (vk2 0 4 (sr ?_))
 refine ym ?_
 refine vc_e (e_call [_] rfl rfl call22 rfl (scan_any s _) ?_)
 rintro _ w ⟨cw, to, tc, rfl, hown⟩
 replace st := St.pushOwn st cw hown
 obtain ⟨T, e, pl, ru, hT⟩ : ∃ T e pl ru, scanRes s = (T, e, pl, ru) := ⟨_, _, _, _, rfl⟩
 rw [hT] at st hown ⊢
 dsimp only at st hown ⊢
 refine ym ?_
 iterate 3 refine vy (y_ext rfl rfl) ?_
 refine vc_e (e_al (l := [_, _]) st rfl rfl zeroValue28 rfl ?_)
 intro b7 w hb7 st
 iterate 2 refine ya ?_
 refine vc_e (e_sts (vs := [_, _]) st 0 rfl rfl rfl rfl rfl sizeOf28 rfl rfl (by (right; assumption)) ?_)
 intro w st; dsimp only [setNth, wr] at st
 refine et (vk5 0 4 5 6 7 (vc_seq (sr ?_)))
 refine ym ?_
 refine et (vk6 0 4 5 6 7 14 (vc_block (sr ?_)))
 refine vy (y_eqi rfl rfl) ?_
 refine ya ?_
 refine et (vk7 0 4 5 6 7 14 15 ?_)
 refine vif ?_ ?_
 ·intro hc15
  try simp only [dn] at hc15
  have he : e = 0 := by omega
  subst he
  have hsc : s.length ≤ 65536 ∧ (front s).2 = none ∧ T = (front s).1 := by
   unfold scanRes at hT
   split at hT
   ·cases hT
   ·rename_i hl
    split at hT
    ·rename_i hf; simp only [Prod.mk.injEq] at hT; exact ⟨by omega, hf, hT.1.symm⟩
    ·cases hT
  obtain ⟨hle, hfr, rfl⟩ := hsc
  obtain ⟨hlen, hok⟩ := front_ok (s := s) (T := (front s).1) (f := (front s).2) rfl
  refine sr ?_
  iterate 2 refine ym ?_
  refine vy (y_lens rfl underlying9) ?_
  refine vy (y_bld (.agg #[_, _, _]) [(0, _), (2, _)] rfl (fun w => by simp [Instr.build, go_sem] <;> repeat' constructor)) ?_
  have hbt : ∀ b ∈ obk to, b < w.heap.size := fun b hb => (owns_lt (st.res (i := 1) rfl) b hb).2
  refine vc_e (e_bxn (l := [_, _, _]) st rfl rfl rfl rfl ?_)
  intro b21 w hbe hb21 st
  refine vy (y_bld (.agg #[_, _]) [] rfl (fun w => by simp [Instr.build, go_sem] <;> repeat' constructor)) ?_
  iterate 2 refine ya ?_
  refine vc_e (e_sts (vs := [_, _]) st 3 rfl rfl rfl rfl rfl sizeOf28 rfl rfl (by (right; assumption)) ?_)
  intro w st; dsimp only [setNth, wr] at st
  refine et (vk3 2 3 4 (vc_ret (vq_block_ret (vq_then_ret ?_))))
  refine vq_ret3 st (.inl rfl) results11 (.tmp rfl) (.tmp rfl) (by exact .cell 3 rfl rfl isAgg28 sizeOf28) ?_
  refine ⟨_, rfl, ?_⟩
  refine ⟨st.chg, .inr (.inr ⟨hle, hfr, ⟨b21, b21, to, tc, (front s).1, s.length, 68, 40, 1⟩, ⟨rfl, rfl, rfl, rfl, rfl, st.res (i := 2) rfl, ?_, hb21, ?_, hle⟩, rfl⟩)⟩
  ·show w.heap[b21]? = _
   have h2 : w.heap[b21]? = some (.cells [.slice to (front s).1.length tc, .int .i64 0, .int .i64 (s.length : Int)].toArray 68 (0, 0)) := st.res (i := 0) rfl
   rw [h2]; simp [pcell]
  intro b hb; show b < b21; rw [hbe]; exact hbt b hb
 intro hc15
 try simp only [dn] at hc15
 refine sr ?_
 refine vy (y_eqi rfl rfl) ?_
 refine ya ?_
 refine et (vk4 4 6 7 23 ?_)
 refine vif ?_ ?_
 ·intro hc23
  try simp only [dn] at hc23
  have he : e = 4 := by omega
  have hsc : 65536 < s.length := by
   unfold scanRes at hT
   split at hT
   ·assumption
   ·split at hT
    ·simp only [Prod.mk.injEq] at hT; omega
    ·simp only [Prod.mk.injEq] at hT; omega
  refine sr ?_
  refine ym ?_
  refine vy (y_bld (.agg #[_, _]) [] rfl (fun w => by simp [Instr.build, go_sem] <;> repeat' constructor)) ?_
  iterate 2 refine ya ?_
  refine vc_e (e_sts (vs := [_, _]) st 2 rfl rfl rfl rfl rfl sizeOf28 rfl rfl (by (right; assumption)) ?_)
  intro w st; dsimp only [setNth, wr] at st
  refine et (vk3 2 3 4 (vc_ret (vq_block_ret (vq_then_ret ?_))))
  refine vq_ret3 st (.inl rfl) results11 (.tmp rfl) (.tmp rfl) (by exact .cell 2 rfl rfl isAgg28 sizeOf28) ?_
  refine ⟨_, rfl, ?_⟩
  refine ⟨st.chg, .inl ⟨hsc, ?_⟩⟩
  rw [he]; rfl
 intro hc23
 try simp only [dn] at hc23
 have hsc : s.length ≤ 65536 ∧ (front s).2 = some (ru, pl) := by
  unfold scanRes at hT
  split at hT
  ·simp only [Prod.mk.injEq] at hT; omega
  ·rename_i hl
   split at hT
   ·simp only [Prod.mk.injEq] at hT; omega
   ·rename_i hf; simp only [Prod.mk.injEq] at hT
    obtain ⟨-, -, rfl, rfl⟩ := hT
    exact ⟨by omega, hf⟩
 refine vc_code_skip (vq_block (vq_then (vk2 4 7 (vc_seq ?_))))
 refine vc_draw Tryz.mixed [(0, true), (1, true), (2, true), (3, true), (4, true), (5, false)] (fun w => St _ _ [.blk b7 (.cells [.int .i64 (pl : Int), .int .i64 (ru : Int)].toArray 28 (0, 0))] w) st.dr (by kernel_rfl) (by repeat (first | exact okQ_noPan | exact okQ_body | exact okQ_bodyS | refine okQ_then ?_ | refine okQ_block ?_)) rfl (by kernel_rfl) ?_
 intro w cd; replace st := st.call0 cd; clear cd
 have hS : St _ _ [.blk b7 (.cells [.int .i64 (pl : Int), .int .i64 (ru : Int)].toArray 28 (0, 0))] w := st.dr
 refine pf0 hS underlying28 sizeOf3 ?_
 refine pld hS 0 isAgg3 ?_
 refine vp_take rfl rfl rfl hS (fun w st => y_bld (.agg #[_, _]) [(0, _), (1, _)] rfl (fun w => by simp [Instr.build, go_sem] <;> repeat' constructor)) ?_
 iterate 2 refine vp_take rfl rfl rfl hS (fun w st => y_as rfl) ?_
 refine vp_do rfl (e_sts (vs := [_, _]) st 2 rfl rfl rfl rfl rfl sizeOf28 rfl rfl (by (right; assumption)) ?_)
 intro w st; dsimp only [setNth, wr] at st
 refine vp_next st.dr ?_; intro hS
 refine vp_end (vq_then (vk3 2 3 4 (vc_ret ?_)))
 refine vq_ret3 st (.inl rfl) results11 (.tmp rfl) (.tmp rfl) (by exact .cell 2 rfl rfl isAgg28 sizeOf28) ?_
 refine ⟨_, rfl, ?_⟩
 exact ⟨st.chg, .inr (.inl ⟨hsc.1, ru, pl, hsc.2, rfl⟩)⟩
end Go.Proofs.YtggnfanphcaamaaGreatDoor


namespace Go.Proofs.YtggnfanphcaamaaGreatDoor
open Go.RowKit Sx LexS ParS _root_.Go.Proofs.Tryz
abbrev pg00 : List Value := [.slice none 0 0, .slice none 0 0, .slice none 0 0]

set_option maxHeartbeats 1000000 in
theorem parse_catch (b2 b3 b4 p ru : Nat) (e : Int) (w : World) (h2 : w.heap[b2]? = some (.cells pg00.toArray 25 (0, 0))) (h3 : w.heap[b3]? = some (.cells [.int .i64 e].toArray 26 (0, 0))) (h4 : w.heap[b4]? = some (.cells [.int .i64 0, .int .i64 0].toArray 28 (0, 0)))
    (n1 : b2 ≠ b3) (n2 : b2 ≠ b4) (n3 : b3 ≠ b4) : DefCatch Tryz.prog 12 [.pointer (some ⟨b2, 0, none⟩), .pointer (some ⟨b3, 0, none⟩), .pointer (some ⟨b4, 0, none⟩)].toArray (.iface 40 (.agg #[.int .i64 (p : Int), .int .i64 (ru : Int)])) w
  (fun w' => w'.heap[b2]? = some (.cells pg00.toArray 25 (0, 0)) ∧ w'.heap[b3]? = some (.cells [.int .i64 30].toArray 26 (0, 0)) ∧ w'.heap[b4]? = some (.cells [.int .i64 (p : Int), .int .i64 (ru : Int)].toArray 28 (0, 0)) ∧ Chg [b2, b3, b4] w w') := by
 refine callsD_of_wpS func12 rfl fun c₀ cs hu => ?_
 have st := St.of3 [b2, b3, b4] h2 h3 h4 n1 n2 n3
 apply wpS_seq
 apply wpS_region
 simp [wpOpsS, go_sem, recoverD, hu, ntmps12, Exit.thenS]
 apply wpS_seq
 apply wpS_region
 simp [wpOpsS, go_sem, Exit.thenS]
 refine wpS_cond (t := true) (by simp [Act.eval, Array.replicate]) ?_
 simp only [if_true]
 refine wpS_of_wp ?_
 refine wp_of_vc (n := (11, [])) (kn := [(0, .pointer (some ⟨b2, 0, none⟩)), (1, .pointer (some ⟨b3, 0, none⟩)), (2, .pointer (some ⟨b4, 0, none⟩)), (3, .iface 40 (.agg #[.int .i64 (p : Int), .int .i64 (ru : Int)]))]) (K.of (by rfl) ?_) ?_
 ·intro i v hv
  simp only [find] at hv
  repeat' split at hv
  all_goals first | (rename_i hh; have hh' := Nat.eq_of_beq_eq_true hh; subst hh'; cases hv; rfl) | simp at hv
 refine vd_draw Tryz.mixed (.take 0 (.take 1 (.two 2 4 (.take 3 (.one 4 (.one 5 (.one 6 .done)))) (.two 2 5 (.take 3 (.one 5 (.one 6 .done))) (.one 2 (.take 3 (.one 6 .done))))))) (fun w => St _ _ [] w) st.dr (by kernel_rfl) (by repeat (first | exact okQ_noPan | exact okQ_body | exact okQ_bodyS | refine okQ_then ?_ | refine okQ_block ?_)) rfl (by kernel_rfl) ?_
 intro w cd; replace st := st.call0 cd; clear cd
 have hS : St _ _ [] w := st.dr
 refine vd_take rfl rfl rfl hS (fun w st => y_bld (.agg #[_, _, _]) [] rfl (fun w => by simp [Instr.build, go_sem] <;> repeat' constructor)) ?_
 refine dm hS ?_
 refine vd_two rfl rfl ?_ ?_
 refine (e_run rfl rfl (y_ta rfl underlying40) ?_)
 refine vd_next st.dr ?_; intro hS
 refine vd_take rfl rfl rfl hS (fun w st => y_fldA (vs := [_, _]) rfl underlying40 rfl rfl isAgg28 sizeOf28 rfl) ?_
 refine vd_do rfl (e_sts (vs := [_, _, _]) st 0 rfl rfl rfl rfl rfl sizeOf25 rfl rfl (by (left; simp)) ?_)
 intro w st
 refine vd_next st.dr ?_; intro hS
 refine vd_do rfl (e_st st 1 rfl rfl rfl rfl sizeOf26 rfl rfl (by (left; simp)) ?_)
 intro w st
 refine vd_next st.dr ?_; intro hS
 rotate_left
 focus
  refine (e_sts (vs := [_, _, _]) st 0 rfl rfl rfl rfl rfl sizeOf25 rfl rfl (by (left; simp)) ?_)
  intro w st
  refine vd_next st.dr ?_; intro hS
  refine vd_two rfl rfl ?_ ?_
  refine (e_run rfl rfl (y_ta rfl underlying40) ?_)
  refine vd_next st.dr ?_; intro hS
  refine vd_take rfl rfl rfl hS (fun w st => y_fldA (vs := [_, _]) rfl underlying40 rfl rfl isAgg28 sizeOf28 rfl) ?_
  refine vd_do rfl (e_st st 1 rfl rfl rfl rfl sizeOf26 rfl rfl (by (left; simp)) ?_)
  intro w st
  refine vd_next st.dr ?_; intro hS
  rotate_left
  refine (e_st st 1 rfl rfl rfl rfl sizeOf26 rfl rfl (by (left; simp)) ?_)
  intro w st
  refine vd_next st.dr ?_; intro hS
  refine vd_do rfl (e_run rfl rfl (y_ta rfl underlying40) ?_)
  refine vd_next st.dr ?_; intro hS
  refine vd_take rfl rfl rfl hS (fun w st => y_fldA (vs := [_, _]) rfl underlying40 rfl rfl isAgg28 sizeOf28 rfl) ?_
 all_goals
  refine vd_do rfl (e_sts (vs := [_, _]) st 2 rfl rfl rfl rfl rfl sizeOf28 rfl rfl (by (left; simp)) ?_)
  intro w st
  refine vd_next st.dr ?_; intro hS
  refine vd_end ?_
  intro a ha
  exact ⟨ha.defers, _, rfl, .tuple #[], by simp [results, results12], ⟨_, rfl⟩, rfl, by first | exact ⟨st.res (i := 0) rfl, st.res (i := 1) rfl, st.res (i := 2) rfl, st.chg⟩⟩
end Go.Proofs.YtggnfanphcaamaaGreatDoor


namespace Go.Proofs.YtggnfanphcaamaaGreatDoor
open Go.RowKit Sx LexS ParS _root_.Go.Proofs.Tryz

theorem parse_idle (args : List Value) (h3 : args.length = 3) (w : World) : DefIdle Tryz.prog 12 args.toArray w (fun w' => w' = w) := by
 refine callsD_of_wpS func12 rfl fun c₀ cs hu => ?_
 obtain ⟨x, y, z, rfl⟩ : ∃ x y z, args = [x, y, z] := by
  match args, h3 with
  | [x, y, z], _ => exact ⟨x, y, z, rfl⟩
 apply wpS_seq
 apply wpS_region
 simp [wpOpsS, go_sem, recoverD, hu, ntmps12, Exit.thenS]
 apply wpS_seq
 apply wpS_region
 simp [wpOpsS, go_sem, Exit.thenS]
 refine wpS_cond (t := false) (by simp [Act.eval, Array.replicate]) ?_
 simp only [Bool.false_eq_true, if_false]
 refine wpS_of_wp (wp_skip ?_)
 cases c₀
 simp_all [bodyPostS, results, results12]
theorem _root_.Sx.St.push2 {w w' w0 : World} {M : List Nat} {hs : List Res} (st : St w0 M hs w) (c : Chg [] w w') {r q : Res} (hr : r.holds w0.heap.size w') (hq : q.holds w0.heap.size w') (hat : ∀ k ∈ r.at?, w.heap.size ≤ k) (hat' : ∀ k ∈ q.at?, w.heap.size ≤ k) (hd : ∀ k ∈ r.at?, k ∉ q.at?) : St w0 M (r :: q :: hs) w' := by
 have st1 := st.pushR c hq hat'
 refine ⟨st1.chg, List.pairwise_cons.2 ⟨fun x hx k hk hk' => ?_, st1.nodup⟩, fun x hx => ?_⟩
 ·rcases List.mem_cons.1 hx with rfl | h
  ·exact hd k hk hk'
  ·exact absurd (st.lt h hk') (by have := hat k hk; omega)
 rcases List.mem_cons.1 hx with rfl | h
 ·exact hr
 ·exact st1.here x h
theorem _root_.Sx.St.pnew {s : List UInt8} {c : PCtx} {w w' w0 : World} {M : List Nat} {hs : List Res} (st : St w0 M hs w) (ch : Chg [] w w') (h : PNew s w.heap.size c w') :
    St w0 M (.blk c.pb (.cells (pcell c c.ts).toArray c.T (0, 0)) :: .own (.slice c.oa c.ts.length c.cap) 82 4 c.ts.length (toksL c.ts) :: hs) w' :=
 st.push2 ch h.at_ (ownsRow_base h.own st.chg.size) (by simpa [Res.at?] using h.le) (fun k hk => (World.ownsRow.lt h.own k (by simpa [Res.at?] using hk)).1)
  (fun k hk => by
    simp only [Res.at?, List.mem_singleton] at hk
    subst hk
    intro hk'
    simp only [Res.at?, obk_own] at hk'
    exact absurd (h.lt _ hk') (Nat.lt_irrefl _))

/-- what 'Parse' leaves behind -/
def ParsePost (s : List UInt8) (w : World) (v : Value) (w' : World) : Prop := Chg [] w w' ∧ ∃ vp, HP w (parseRes s).1 vp w' ∧ v = .tuple #[vp, .int .i64 ((parseRes s).2.1 : Int), .agg #[.int .i64 ((parseRes s).2.2.1 : Int), .int .i64 ((parseRes s).2.2.2 : Int)]]
theorem hp_none (w0 : World) (w' : World) : HP w0 pg0 (.agg pg00.toArray) w' :=
 ⟨none, none, none, 0, 0, 0, [], rfl, ⟨none, 0, none, 0, none, 0, [], [], [], rfl, ⟨World.ownsRow_nil _ _ _ _, rfl⟩, ⟨World.ownsRow_nil _ _ _ _, rfl⟩, ⟨[], [], World.ownsRow_nil _ _ _ _, rfl, rfl, rfl⟩, rfl⟩, Nw.nil⟩
theorem _root_.Sx.holds_pg {tE tS tD tT base : Nat} {w : World} {q : Pg} {l : List Value} {S : List Nat} (h : PgS tE tS tD tT w q l S) : (Res.tree S fun w => PgS tE tS tD tT w q l S).holds base w := holds_of h h.lt (fun a b h hk => h.kept hk)

/-- a refusal is caught -/
theorem parse_pan {s : List UInt8} {w0 w : World} {b2 b3 b4 : Nat} {f : Flt} {kn : Kn} (h2 : w.heap[b2]? = some (.cells pg00.toArray 25 (0, 0))) (h3 : w.heap[b3]? = some (.cells [.int .i64 0].toArray 26 (0, 0))) (h4 : w.heap[b4]? = some (.cells [.int .i64 0, .int .i64 0].toArray 28 (0, 0)))
    (n1 : b2 ≠ b3) (n2 : b2 ≠ b4) (n3 : b3 ≠ b4) (l2 : w0.heap.size ≤ b2) (l3 : w0.heap.size ≤ b3) (l4 : w0.heap.size ≤ b4) (ch : Chg [] w0 w) (hpr : parseRes s = (pg0, 30, f.1, f.2))
  (k2 : find kn 2 = some (.pointer (some ⟨b2, 0, none⟩))) (k3 : find kn 3 = some (.pointer (some ⟨b3, 0, none⟩))) (k4 : find kn 4 = some (.pointer (some ⟨b4, 0, none⟩))) :
  PanK (21, [⟨.fn (.func 12) (List.toArray [.pointer (some ⟨b2, 0, none⟩), .pointer (some ⟨b3, 0, none⟩), .pointer (some ⟨b4, 0, none⟩)]), #[]⟩]) kn (bodyPostD Tryz.prog Tryz.f5 fun e w' => ∃ v, e = .returned v ∧ ParsePost s w0 v w') (.iface 40 (.agg #[.int .i64 (f.1 : Int), .int .i64 (f.2 : Int)])) w := by
 refine pan_leave call12 (parse_catch b2 b3 b4 f.1 f.2 _ w h2 h3 h4 n1 n2 n3) (fun w2 hc => ?_)
 obtain ⟨g2, g3, g4, c2⟩ := hc
 have st2 := St.of3 [] g2 g3 g4 n1 n2 n3
 refine ⟨_, results3 st2 results5 (.cell 0 k2 rfl isAgg25 sizeOf25) (.cell1 1 k3 rfl isAgg26 rfl) (.cell 2 k4 rfl isAgg28 sizeOf28), _, rfl, ch.trans' c2 (by simp [l2, l3, l4]), ?_⟩
 rw [hpr]
 exact ⟨_, hp_none _ _, rfl⟩
set_option maxHeartbeats 1000000 in
theorem parse_any (s : List UInt8) (w : World) (hsg : SigAt 1 w) : Ret Tryz.prog 5 [str s] w (ParsePost s w) := by
 refine retd_of [_] func5 rfl ntmps5 rfl ?_
 have st := St.init w []
 obtain ⟨w0, rfl⟩ : ∃ w0, w0 = w := ⟨_, rfl⟩
 have h0 : 1 < w0.heap.size := World.block_lt_of_cell? w0 _ (hsg 0 (by omega)).1
 refine sr ?_
 refine vc_e (e_al (l := [_, _, _]) st rfl rfl zeroValue25 rfl ?_)
 intro b2 w hb2 st
 refine vc_e (e_al (l := [_]) st rfl rfl zeroValue26 rfl ?_)
 intro b3 w hb3 st
 refine vc_e (e_al (l := [_, _]) st rfl rfl zeroValue28 rfl ?_)
 intro b4 w hb4 st
 refine et (vk4 0 2 3 4 (sr ?_))
 refine ym ?_
 have n43 := st.bne 0 1 (by decide) rfl rfl
 have n42 := st.bne 0 2 (by decide) rfl rfl
 have n32 := st.bne 1 2 (by decide) rfl rfl
 have n34 := Ne.symm n43
 have n24 := Ne.symm n42
 have n23 := Ne.symm n32
 have hw1 := st.chg.size
 refine vc_e (e_call [_] rfl rfl call11 rfl (begun_any s _ (hsg.kept st.chg (by simp))) ?_)
 rintro _ w ⟨cw, hb⟩
 rcases hb with ⟨hl, rfl⟩ | ⟨hl, ru, pl, hfr, rfl⟩ | ⟨hl, hfr, c, hn, rfl⟩
 ·replace st := st.call0 cw
  have hpr : parseRes s = (pg0, 4, 0, 0) := by simp [parseRes, hl]
  refine ym ?_
  iterate 3 refine vy (y_ext rfl rfl) ?_
  refine ya ?_
  refine vc_e (e_st st 1 rfl rfl rfl rfl sizeOf26 rfl rfl (by (right; assumption)) ?_)
  intro w st
  refine vc_e (e_sts (vs := [_, _]) st 0 rfl rfl rfl rfl rfl sizeOf28 rfl rfl (by (right; assumption)) ?_)
  intro w st
  refine et (vk4 2 3 4 5 (vc_seq (sr ?_)))
  refine yl st 1 isAgg26 ?_
  refine vy (y_nei rfl rfl) ?_
  refine et (vk5 2 3 4 5 13 ?_)
  refine vif ?_ ?_
  ·intro hc13
   refine vc_seq ?_
   refine vc_noPan ?_
   refine vc_draw Tryz.mixed [(0, true), (1, true), (2, true), (3, false), (4, false), (5, false)] (fun w => St _ _ _ w) st (by kernel_rfl) (by repeat (first | exact okQ_noPan | exact okQ_body | exact okQ_bodyS | refine okQ_then ?_ | refine okQ_block ?_)) rfl (by kernel_rfl) ?_
   intro w cd; replace st := st.call0 cd; clear cd
   have hS := st
   refine vp_take rfl rfl rfl hS (fun w st => y_lda (vs := [_, _, _]) st 2 rfl isAgg25 sizeOf25 rfl rfl) ?_
   refine pld hS 1 isAgg26 ?_
   refine vp_take rfl rfl rfl hS (fun w st => y_lda (vs := [_, _]) st 0 rfl isAgg28 sizeOf28 rfl rfl) ?_
   refine vp_do rfl (e_sts (vs := [_, _, _]) st 2 rfl rfl rfl rfl rfl sizeOf25 rfl rfl (by (right; assumption)) ?_)
   intro w st
   refine vp_next (by exact st) ?_; intro hS
   refine vp_do rfl (e_st st 1 rfl rfl rfl rfl sizeOf26 rfl rfl (by (right; assumption)) ?_)
   intro w st
   refine vp_next (by exact st) ?_; intro hS
   refine vp_do rfl (e_sts (vs := [_, _]) st 0 rfl rfl rfl rfl rfl sizeOf28 rfl rfl (by (right; assumption)) ?_)
   intro w st
   refine vp_next (by exact st) ?_; intro hS
   refine vp_end ?_
   refine vq_noPan ?_
   refine vq_then (vk3 2 3 4 (vc_ret (vq_then_ret ?_)))
   refine vqd_post (.inl rfl) (results3 st results5 (.cell 2 rfl rfl isAgg25 sizeOf25) (.cell1 1 rfl rfl isAgg26 rfl) (.cell 0 rfl rfl isAgg28 sizeOf28)) ?_
   refine ⟨_, rfl, st.chg, ?_⟩
   rw [hpr]
   exact ⟨_, hp_none _ _, rfl⟩
  intro hc13
  exact absurd hc13 (by decide)
 ·replace st := st.call0 cw
  have hpr : parseRes s = (pg0, 30, pl, 1) := by simp [parseRes, Nat.not_lt.2 hl, hfr]
  refine ym ?_
  iterate 3 refine vy (y_ext rfl rfl) ?_
  refine ya ?_
  refine vc_e (e_st st 1 rfl rfl rfl rfl sizeOf26 rfl rfl (by (right; assumption)) ?_)
  intro w st
  refine vc_e (e_sts (vs := [_, _]) st 0 rfl rfl rfl rfl rfl sizeOf28 rfl rfl (by (right; assumption)) ?_)
  intro w st
  refine et (vk4 2 3 4 5 (vc_seq (sr ?_)))
  refine yl st 1 isAgg26 ?_
  refine vy (y_nei rfl rfl) ?_
  refine et (vk5 2 3 4 5 13 ?_)
  refine vif ?_ ?_
  ·intro hc13
   refine vc_seq ?_
   refine vc_noPan ?_
   refine vc_draw Tryz.mixed [(0, true), (1, true), (2, true), (3, false), (4, false), (5, false)] (fun w => St _ _ _ w) st (by kernel_rfl) (by repeat (first | exact okQ_noPan | exact okQ_body | exact okQ_bodyS | refine okQ_then ?_ | refine okQ_block ?_)) rfl (by kernel_rfl) ?_
   intro w cd; replace st := st.call0 cd; clear cd
   have hS := st
   refine vp_take rfl rfl rfl hS (fun w st => y_lda (vs := [_, _, _]) st 2 rfl isAgg25 sizeOf25 rfl rfl) ?_
   refine pld hS 1 isAgg26 ?_
   refine vp_take rfl rfl rfl hS (fun w st => y_lda (vs := [_, _]) st 0 rfl isAgg28 sizeOf28 rfl rfl) ?_
   refine vp_do rfl (e_sts (vs := [_, _, _]) st 2 rfl rfl rfl rfl rfl sizeOf25 rfl rfl (by (right; assumption)) ?_)
   intro w st
   refine vp_next (by exact st) ?_; intro hS
   refine vp_do rfl (e_st st 1 rfl rfl rfl rfl sizeOf26 rfl rfl (by (right; assumption)) ?_)
   intro w st
   refine vp_next (by exact st) ?_; intro hS
   refine vp_do rfl (e_sts (vs := [_, _]) st 0 rfl rfl rfl rfl rfl sizeOf28 rfl rfl (by (right; assumption)) ?_)
   intro w st
   refine vp_next (by exact st) ?_; intro hS
   refine vp_end ?_
   refine vq_noPan ?_
   refine vq_then (vk3 2 3 4 (vc_ret (vq_then_ret ?_)))
   refine vqd_post (.inl rfl) (results3 st results5 (.cell 2 rfl rfl isAgg25 sizeOf25) (.cell1 1 rfl rfl isAgg26 rfl) (.cell 0 rfl rfl isAgg28 sizeOf28)) ?_
   refine ⟨_, rfl, st.chg, ?_⟩
   rw [hpr]
   exact ⟨_, hp_none _ _, rfl⟩
  intro hc13
  exact absurd hc13 (by decide)
 ·replace st := st.pnew cw hn
  have hpr : parseRes s = match progP c.e (c.ts.length + 1) c.ts with | .error f => (pg0, 30, f.1, f.2) | .ok p => (p, 0, 0, 0) := by
   unfold parseRes; rw [if_neg (by omega), hfr, hn.e, hn.ts]
   try rfl
  refine ym ?_
  iterate 3 refine vy (y_ext rfl rfl) ?_
  refine ya ?_
  refine vc_e (e_st st 3 rfl rfl rfl rfl sizeOf26 rfl rfl (by (right; assumption)) ?_)
  intro w st
  refine vc_e (e_sts (vs := [_, _]) st 2 rfl rfl rfl rfl rfl sizeOf28 rfl rfl (by (right; assumption)) ?_)
  intro w st
  refine et (vk4 2 3 4 5 (vc_seq (sr ?_)))
  refine yl st 3 isAgg26 ?_
  refine vy (y_nei rfl rfl) ?_
  refine et (vk5 2 3 4 5 13 ?_)
  refine vif ?_ ?_
  ·intro hc13
   exact absurd hc13 (by decide)
  intro hc13
  refine kt (vk4 2 3 4 5 (sr ?_))
  refine vy (y_mf [] [_, _, _] rfl rfl) ?_
  refine vc_e (e_deferV rfl rfl rfl ?_)
  refine et (vk4 2 3 4 5 (sr ?_))
  refine ym ?_
  refine vc_e (e_callk [_] rfl rfl call13 rfl (pprog_any c hn.R hn.g c.ts (List.suffix_refl _) _ (hn.ok (st.res (i := 1) rfl) (hsg.kept st.chg (by simp)) (st.res (i := 0) rfl) (Nat.lt_of_lt_of_le h0 hw1)) (st.res (i := 0) rfl) (c.ts.length + 1) (by omega)) (by
      rintro _ w' ⟨f, hf, rfl, ch⟩
      obtain ⟨o', ho'⟩ : ∃ o', w'.heap[c.pb]? = some o' := ⟨_, Array.getElem?_eq_getElem (Nat.lt_of_lt_of_le (Array.getElem?_eq_some_iff.1 (st.res (i := 0) rfl)).1 ch.size)⟩
      have st' := St.prs (b := c.pb) st 0 rfl ch (.inr (Nat.le_trans hw1 hn.le)) ho'
      dsimp only [setNth] at st'
      rw [show refV c f = .iface 40 (.agg #[.int .i64 (f.1 : Int), .int .i64 (f.2 : Int)]) by rw [refV, hn.R]]
      exact parse_pan (st'.res (i := 4) rfl) (st'.res (i := 3) rfl) (st'.res (i := 2) rfl) n23 n24 n34 hb2 hb3 hb4 st'.chg (by rw [hpr, hf]) rfl rfl rfl) ?_)
  rintro _ w ⟨q, hq, cw, os, ol, ot, cs, cl, ct, Sq, rfl, hT, hN⟩
  have hw2 := st.chg.size
  obtain ⟨o', ho'⟩ : ∃ o', w.heap[c.pb]? = some o' := ⟨_, Array.getElem?_eq_getElem (Nat.lt_of_lt_of_le (Array.getElem?_eq_some_iff.1 (st.res (i := 0) rfl)).1 cw.size)⟩
  replace st := St.prsT (b := c.pb) st 0 rfl cw (.inr (Nat.le_trans hw1 hn.le)) ho' (holds_pg hT) hN.2
  refine vy (y_bld (.agg #[_, _]) [] rfl (fun w => by simp [Instr.build, go_sem] <;> repeat' constructor)) ?_
  refine vc_e (e_sts (vs := [_, _, _]) st 5 rfl rfl rfl rfl rfl sizeOf25 rfl rfl (by (right; assumption)) ?_)
  intro w st
  refine vc_e (e_st st 4 rfl rfl rfl rfl sizeOf26 rfl rfl (by (right; assumption)) ?_)
  intro w st
  refine vc_e (e_sts (vs := [_, _]) st 3 rfl rfl rfl rfl rfl sizeOf28 rfl rfl (by (right; assumption)) ?_)
  intro w st
  refine et (vk3 2 3 4 (vc_ret ?_))
  refine vqd_ret (.inl rfl) call12 (parse_idle [.pointer (some ⟨b2, 0, none⟩), .pointer (some ⟨b3, 0, none⟩), .pointer (some ⟨b4, 0, none⟩)] rfl _) (fun w2 e2 => ?_)
  subst e2
  refine ⟨_, results3 st results5 (.cell 5 rfl rfl isAgg25 sizeOf25) (.cell1 4 rfl rfl isAgg26 rfl) (.cell 3 rfl rfl isAgg28 sizeOf28), _, rfl, st.chg, ?_⟩
  rw [hpr, hq]
  dsimp only
  exact ⟨_, ⟨os, ol, ot, cs, cl, ct, Sq, rfl, (st.res (i := 0) rfl).1, hN.le hw2⟩, rfl⟩
end Go.Proofs.YtggnfanphcaamaaGreatDoor


namespace Go.Proofs.YtggnfanphcaamaaGreatDoor
open Go.RowKit Sx LexS _root_.Go.Proofs.Tryz
theorem all_take_succ {p : UInt8 → Bool} {l : List UInt8} {m : Nat} (hm : m < l.length) (h : (l.take m).all p = true) (hp : p (l.getD m 0) = true) : (l.take (m + 1)).all p = true := by
 rw [List.take_add_one]
 have : l[m]? = some (l.getD m 0) := by simp [List.getD, hm]
 rw [this]
 simp only [List.all_append, h, Option.toList_some, List.all_cons, hp, List.all_nil, Bool.and_self]
theorem all_no {p : UInt8 → Bool} {l : List UInt8} {m : Nat} (hm : m < l.length) (hp : p (l.getD m 0) = false) : l.all p = false := by
 rw [List.all_eq_false]
 refine ⟨l.getD m 0, ?_, by rw [hp]; simp⟩
 rw [show l.getD m 0 = l[m] from by simp [List.getD, hm]]
 exact List.getElem_mem hm
theorem isSign_ref {l : List UInt8} : isSign l = decide (l = [40] ∨ l = [41] ∨ l = [123] ∨ l = [125] ∨ l = [44] ∨ l = [59] ∨ l = [61] ∨ l = [43] ∨ l = [45] ∨ l = [42] ∨ l = [47] ∨ l = [37] ∨ l = [38] ∨ l = [124] ∨ l = [94] ∨ l = [33] ∨ l = [60] ∨ l = [62] ∨
    l = [61, 61] ∨ l = [33, 61] ∨ l = [60, 61] ∨ l = [62, 61] ∨ l = [60, 60] ∨ l = [62, 62]) := by
 match l with
 | [] => rfl
 | [c] => 
  have h2 : isSign2 [c] = false := by simp [isSign2]
  rw [Bool.eq_iff_iff]
  simp [isSign, h2, isSign1, signs1]
 | a :: b :: r =>
  have h1 : isSign1 (a :: b :: r) = false := rfl
  simp only [isSign, h1, Bool.or_false, isSign2]
  congr 1
  simp
set_option maxHeartbeats 2000000 in
theorem rsign_any (l : List UInt8) (w : World) : Ret Tryz.prog 79 [str l] w fun v w' => v = .bool (isSign l) ∧ w' = w := by
 refine ret_of [_] func79 rfl ntmps79 rfl ?_
 have st := St.init w []
 refine sr ?_
 refine ya ?_
 refine et (vk1 0 (vc_seq (sr ?_)))
 refine ym ?_
 refine et (vk1 3 (vc_block (vc_seq (sr ?_))))
 refine vy (y_eqs rfl rfl) ?_
 refine ya ?_
 refine et (vk2 3 4 ?_)
 refine vif ?_ ?_
 intro hc4
 try simp only [dn] at hc4
 refine kt (vk1 4 ?_)
 refine vc_ift rfl ?_
 refine sr ?_
 refine ya ?_
 refine et (vk1 2 (vc_ret (vq_block_ret (vq_then_ret ?_))))
 rotate_left
 focus
  intro hc4
  try simp only [dn] at hc4
  refine sr ?_
  refine vy (y_eqs rfl rfl) ?_
  refine ya ?_
  refine et (vk2 3 4 ?_)
  refine vif ?_ ?_
  intro hc4
  try simp only [dn] at hc4
  refine kt (vk1 4 ?_)
  refine vc_ift rfl ?_
  refine sr ?_
  refine ya ?_
  refine et (vk1 2 (vc_ret (vq_block_ret (vq_then_ret ?_))))
  rotate_left
  focus
   intro hc4
   try simp only [dn] at hc4
   refine sr ?_
   refine vy (y_eqs rfl rfl) ?_
   refine ya ?_
   refine et (vk2 3 4 ?_)
   refine vif ?_ ?_
   intro hc4
   try simp only [dn] at hc4
   refine kt (vk1 4 ?_)
   refine vc_ift rfl ?_
   refine sr ?_
   refine ya ?_
   refine et (vk1 2 (vc_ret (vq_block_ret (vq_then_ret ?_))))
   rotate_left
   focus
    intro hc4
    try simp only [dn] at hc4
    refine sr ?_
    refine vy (y_eqs rfl rfl) ?_
    refine ya ?_
    refine et (vk2 3 4 ?_)
    refine vif ?_ ?_
    intro hc4
    try simp only [dn] at hc4
    refine kt (vk1 4 ?_)
    refine vc_ift rfl ?_
    refine sr ?_
    refine ya ?_
    refine et (vk1 2 (vc_ret (vq_block_ret (vq_then_ret ?_))))
    rotate_left
    focus
     intro hc4
     try simp only [dn] at hc4
     refine sr ?_
     refine vy (y_eqs rfl rfl) ?_
     refine ya ?_
     refine et (vk2 3 4 ?_)
     refine vif ?_ ?_
     intro hc4
     try simp only [dn] at hc4
     refine kt (vk1 4 ?_)
     refine vc_ift rfl ?_
     refine sr ?_
     refine ya ?_
     refine et (vk1 2 (vc_ret (vq_block_ret (vq_then_ret ?_))))
     rotate_left
     focus
      intro hc4
      try simp only [dn] at hc4
      refine sr ?_
      refine vy (y_eqs rfl rfl) ?_
      refine ya ?_
      refine et (vk2 3 4 ?_)
      refine vif ?_ ?_
      intro hc4
      try simp only [dn] at hc4
      refine kt (vk1 4 ?_)
      refine vc_ift rfl ?_
      refine sr ?_
      refine ya ?_
      refine et (vk1 2 (vc_ret (vq_block_ret (vq_then_ret ?_))))
      rotate_left
      focus
       intro hc4
       try simp only [dn] at hc4
       refine sr ?_
       refine vy (y_eqs rfl rfl) ?_
       refine ya ?_
       refine et (vk2 3 4 ?_)
       refine vif ?_ ?_
       intro hc4
       try simp only [dn] at hc4
       refine kt (vk1 4 ?_)
       refine vc_ift rfl ?_
       refine sr ?_
       refine ya ?_
       refine et (vk1 2 (vc_ret (vq_block_ret (vq_then_ret ?_))))
       rotate_left
       focus
        intro hc4
        try simp only [dn] at hc4
        refine sr ?_
        refine vy (y_eqs rfl rfl) ?_
        refine ya ?_
        refine et (vk2 3 4 ?_)
        refine vif ?_ ?_
        intro hc4
        try simp only [dn] at hc4
        refine kt (vk1 4 ?_)
        refine vc_ift rfl ?_
        refine sr ?_
        refine ya ?_
        refine et (vk1 2 (vc_ret (vq_block_ret (vq_then_ret ?_))))
        rotate_left
        focus
         intro hc4
         try simp only [dn] at hc4
         refine sr ?_
         refine vy (y_eqs rfl rfl) ?_
         refine ya ?_
         refine et (vk2 3 4 ?_)
         refine vif ?_ ?_
         intro hc4
         try simp only [dn] at hc4
         refine kt (vk1 4 ?_)
         refine vc_ift rfl ?_
         refine sr ?_
         refine ya ?_
         refine et (vk1 2 (vc_ret (vq_block_ret (vq_then_ret ?_))))
         rotate_left
         focus
          intro hc4
          try simp only [dn] at hc4
          refine sr ?_
          refine vy (y_eqs rfl rfl) ?_
          refine ya ?_
          refine et (vk2 3 4 ?_)
          refine vif ?_ ?_
          intro hc4
          try simp only [dn] at hc4
          refine kt (vk1 4 ?_)
          refine vc_ift rfl ?_
          refine sr ?_
          refine ya ?_
          refine et (vk1 2 (vc_ret (vq_block_ret (vq_then_ret ?_))))
          rotate_left
          focus
           intro hc4
           try simp only [dn] at hc4
           refine sr ?_
           refine vy (y_eqs rfl rfl) ?_
           refine ya ?_
           refine et (vk2 3 4 ?_)
           refine vif ?_ ?_
           intro hc4
           try simp only [dn] at hc4
           refine kt (vk1 4 ?_)
           refine vc_ift rfl ?_
           refine sr ?_
           refine ya ?_
           refine et (vk1 2 (vc_ret (vq_block_ret (vq_then_ret ?_))))
           rotate_left
           focus
            intro hc4
            try simp only [dn] at hc4
            refine sr ?_
            refine vy (y_eqs rfl rfl) ?_
            refine ya ?_
            refine et (vk2 3 4 ?_)
            refine vif ?_ ?_
            intro hc4
            try simp only [dn] at hc4
            refine kt (vk1 4 ?_)
            refine vc_ift rfl ?_
            refine sr ?_
            refine ya ?_
            refine et (vk1 2 (vc_ret (vq_block_ret (vq_then_ret ?_))))
            rotate_left
            focus
             intro hc4
             try simp only [dn] at hc4
             refine sr ?_
             refine vy (y_eqs rfl rfl) ?_
             refine ya ?_
             refine et (vk2 3 4 ?_)
             refine vif ?_ ?_
             intro hc4
             try simp only [dn] at hc4
             refine kt (vk1 4 ?_)
             refine vc_ift rfl ?_
             refine sr ?_
             refine ya ?_
             refine et (vk1 2 (vc_ret (vq_block_ret (vq_then_ret ?_))))
             rotate_left
             focus
              intro hc4
              try simp only [dn] at hc4
              refine sr ?_
              refine vy (y_eqs rfl rfl) ?_
              refine ya ?_
              refine et (vk2 3 4 ?_)
              refine vif ?_ ?_
              intro hc4
              try simp only [dn] at hc4
              refine kt (vk1 4 ?_)
              refine vc_ift rfl ?_
              refine sr ?_
              refine ya ?_
              refine et (vk1 2 (vc_ret (vq_block_ret (vq_then_ret ?_))))
              rotate_left
              focus
               intro hc4
               try simp only [dn] at hc4
               refine sr ?_
               refine vy (y_eqs rfl rfl) ?_
               refine ya ?_
               refine et (vk2 3 4 ?_)
               refine vif ?_ ?_
               intro hc4
               try simp only [dn] at hc4
               refine kt (vk1 4 ?_)
               refine vc_ift rfl ?_
               refine sr ?_
               refine ya ?_
               refine et (vk1 2 (vc_ret (vq_block_ret (vq_then_ret ?_))))
               rotate_left
               focus
                intro hc4
                try simp only [dn] at hc4
                refine sr ?_
                refine vy (y_eqs rfl rfl) ?_
                refine ya ?_
                refine et (vk2 3 4 ?_)
                refine vif ?_ ?_
                intro hc4
                try simp only [dn] at hc4
                refine kt (vk1 4 ?_)
                refine vc_ift rfl ?_
                refine sr ?_
                refine ya ?_
                refine et (vk1 2 (vc_ret (vq_block_ret (vq_then_ret ?_))))
                rotate_left
                focus
                 intro hc4
                 try simp only [dn] at hc4
                 refine sr ?_
                 refine vy (y_eqs rfl rfl) ?_
                 refine ya ?_
                 refine et (vk2 3 4 ?_)
                 refine vif ?_ ?_
                 intro hc4
                 try simp only [dn] at hc4
                 refine kt (vk1 4 ?_)
                 refine vc_ift rfl ?_
                 refine sr ?_
                 refine ya ?_
                 refine et (vk1 2 (vc_ret (vq_block_ret (vq_then_ret ?_))))
                 rotate_left
                 focus
                  intro hc4
                  try simp only [dn] at hc4
                  refine sr ?_
                  refine vy (y_eqs rfl rfl) ?_
                  refine ya ?_
                  refine et (vk2 3 4 ?_)
                  refine vif ?_ ?_
                  intro hc4
                  try simp only [dn] at hc4
                  refine kt (vk1 4 ?_)
                  refine vc_ift rfl ?_
                  refine sr ?_
                  refine ya ?_
                  refine et (vk1 2 (vc_ret (vq_block_ret (vq_then_ret ?_))))
                  rotate_left
                  focus
                   intro hc4
                   try simp only [dn] at hc4
                   refine sr ?_
                   refine vy (y_eqs rfl rfl) ?_
                   refine ya ?_
                   refine et (vk2 3 4 ?_)
                   refine vif ?_ ?_
                   intro hc4
                   try simp only [dn] at hc4
                   refine kt (vk1 4 ?_)
                   refine vc_ift rfl ?_
                   refine sr ?_
                   refine ya ?_
                   refine et (vk1 2 (vc_ret (vq_block_ret (vq_then_ret ?_))))
                   rotate_left
                   focus
                    intro hc4
                    try simp only [dn] at hc4
                    refine sr ?_
                    refine vy (y_eqs rfl rfl) ?_
                    refine ya ?_
                    refine et (vk2 3 4 ?_)
                    refine vif ?_ ?_
                    intro hc4
                    try simp only [dn] at hc4
                    refine kt (vk1 4 ?_)
                    refine vc_ift rfl ?_
                    refine sr ?_
                    refine ya ?_
                    refine et (vk1 2 (vc_ret (vq_block_ret (vq_then_ret ?_))))
                    rotate_left
                    focus
                     intro hc4
                     try simp only [dn] at hc4
                     refine sr ?_
                     refine vy (y_eqs rfl rfl) ?_
                     refine ya ?_
                     refine et (vk2 3 4 ?_)
                     refine vif ?_ ?_
                     intro hc4
                     try simp only [dn] at hc4
                     refine kt (vk1 4 ?_)
                     refine vc_ift rfl ?_
                     refine sr ?_
                     refine ya ?_
                     refine et (vk1 2 (vc_ret (vq_block_ret (vq_then_ret ?_))))
                     rotate_left
                     focus
                      intro hc4
                      try simp only [dn] at hc4
                      refine sr ?_
                      refine vy (y_eqs rfl rfl) ?_
                      refine ya ?_
                      refine et (vk2 3 4 ?_)
                      refine vif ?_ ?_
                      intro hc4
                      try simp only [dn] at hc4
                      refine kt (vk1 4 ?_)
                      refine vc_ift rfl ?_
                      refine sr ?_
                      refine ya ?_
                      refine et (vk1 2 (vc_ret (vq_block_ret (vq_then_ret ?_))))
                      rotate_left
                      focus
                       intro hc4
                       try simp only [dn] at hc4
                       refine sr ?_
                       refine vy (y_eqs rfl rfl) ?_
                       refine ya ?_
                       refine et (vk2 3 4 ?_)
                       refine vif ?_ ?_
                       intro hc4
                       try simp only [dn] at hc4
                       refine kt (vk1 4 ?_)
                       refine vc_ift rfl ?_
                       refine sr ?_
                       refine ya ?_
                       refine et (vk1 2 (vc_ret (vq_block_ret (vq_then_ret ?_))))
                       rotate_left
                       focus
                        intro hc4
                        try simp only [dn] at hc4
                        refine vc_region ?_
                        refine vy (y_eqs rfl rfl) ?_
                        refine ya ?_
                        refine et (vk1 4 ?_)
                        refine vif ?_ ?_
                        intro hc4
                        try simp only [dn] at hc4
                        refine sr ?_
                        refine ya ?_
                        refine et (vk1 2 (vc_ret (vq_block_ret (vq_then_ret ?_))))
                        rotate_left
                        intro hc4
                        try simp only [dn] at hc4
                        refine vc_code_skip (vq_block (vq_then (vc_keep [] trivial (sr ?_))))
                        refine ya ?_
                        refine et (vk1 2 (vc_ret ?_))
 all_goals
  refine vq_ret1 st (.inl rfl) results79 (.tmp rfl) ?_
  refine ⟨_, rfl, ?_⟩
  refine ⟨?_, rfl⟩
  rw [Value.bool.injEq, isSign_ref]
  first
  | (symm; simp only [decide_eq_true_eq]; simp only [*, true_or, or_true]; done)
  | (symm; simp only [decide_eq_false_iff_not]; simp only [*, or_self, not_false_eq_true])
end Go.Proofs.YtggnfanphcaamaaGreatDoor


namespace Go.Proofs.YtggnfanphcaamaaGreatDoor
open Go.RowKit Sx LexS _root_.Go.Proofs.Tryz
theorem isRem_cons {s : List UInt8} {j : Nat} (hj : j < s.length) (h1 : ((s.getD j 0).toNat : Int) = 47) (h2 : j + 1 < s.length) (h3 : ((s.getD (j + 1) 0).toNat : Int) = 47) : isRem (s.drop j) = true := by
 rw [drop_cons hj, drop_cons h2]
 simp only [isRem, decide_eq_true_eq]
 exact ⟨UInt8.toNat_inj.1 (by simp only [UInt8.reduceToNat]; omega), UInt8.toNat_inj.1 (by simp only [UInt8.reduceToNat]; omega)⟩
theorem isRem_no {s : List UInt8} {j : Nat} (hj : j < s.length) (h : ¬((s.getD j 0).toNat : Int) = 47 ∨ s.length ≤ j + 1 ∨ ¬((s.getD (j + 1) 0).toNat : Int) = 47) : isRem (s.drop j) = false := by
 rw [drop_cons hj]
 by_cases h2 : j + 1 < s.length
 ·rw [drop_cons h2]
  simp only [isRem, decide_eq_false_iff_not]
  rintro ⟨h4, h5⟩
  rcases h with h | h | h
  ·rw [h4] at h; exact h rfl
  ·omega
  ·rw [h5] at h; exact h rfl
 ·rw [List.drop_eq_nil_of_le (by omega)]; rfl
theorem toLf_step {s : List UInt8} {j : Nat} (hj : j < s.length) (h : ¬((s.getD j 0).toNat : Int) = 10) : toLf (s.drop j) = toLf (s.drop (j + 1)) + 1 := by
 rw [drop_cons hj]
 simp only [toLf]
 rw [if_neg]
 intro h'
 rw [h'] at h
 exact h rfl
theorem toLf_here {s : List UInt8} {j : Nat} (h : s.length ≤ j ∨ ((s.getD j 0).toNat : Int) = 10) : toLf (s.drop j) = 0 := by
 by_cases hj : j < s.length
 ·rw [drop_cons hj]
  simp only [toLf]
  rw [if_pos (UInt8.toNat_inj.1 (by simp only [UInt8.reduceToNat]; omega))]
 ·rw [List.drop_eq_nil_of_le (by omega)]; rfl
/-- the document's answer for a number's digits -/
def numR (l : List UInt8) : Nat × Bool := if l = [] ∨ (1 < l.length ∧ l.getD 0 0 = 48) ∨ l.all isDigit = false ∨ 9223372036854775807 < numVal l then (0, false) else (numVal l, true)
theorem numVal_mono (a b : List UInt8) : numVal a ≤ numVal (a ++ b) := by
 induction b generalizing a with
 | nil => simp
 | cons c r ih =>
  have h := ih (a ++ [c])
  rw [numVal_snoc] at h
  rw [show a ++ c :: r = a ++ [c] ++ r by simp]
  omega
theorem numVal_take_le (l : List UInt8) (j : Nat) : numVal (l.take j) ≤ numVal l := by
 have h := numVal_mono (l.take j) (l.drop j)
 rwa [List.take_append_drop] at h
theorem numVal_step {l : List UInt8} {j : Nat} (hj : j < l.length) : numVal (l.take (j + 1)) = 10 * numVal (l.take j) + ((l.getD j 0).toNat - 48) := by
 rw [← numVal_snoc, List.take_succ_eq_append_getElem (by omega)]
 simp [List.getD, hj]
set_option maxHeartbeats 1000000 in
theorem rskip_any (s : List UInt8) (i : Nat) (w : World) (hi : i ≤ s.length) (hs : s.length ≤ 9000000000000000000) :
    Ret Tryz.prog 62 [str s, .int .i64 (i : Int)] w fun v w' => v = .int .i64 ((i + skip (s.drop i) : Nat) : Int) ∧ w' = w := by
 refine ret_of [_, _] func62 rfl ntmps62 rfl ?_
 have st := St.init w []
 refine sr ?_
 refine ya ?_
 refine et (vk2 0 1 (vc_seq (vc_block ?_)))
 refine vc_loop (w0 := _) (M := _) (fun (j : Nat) => [(0, str s), (1, .int .i64 (j : Int))]) (fun _ => []) (fun j w' => j ≤ s.length ∧ j + skip (s.drop j) = i + skip (s.drop i) ∧ w' = w) (fun j => s.length - j) i ⟨rfl, rfl, trivial⟩ st ⟨hi, rfl, rfl⟩ ?_
 rintro j w' ⟨hj, he, rfl⟩ st
 refine vc_seq (sr ?_)
 iterate 2 refine ym ?_
 refine vy (y_lens rfl underlying9) ?_
 refine vy (y_lss rfl rfl) ?_
 refine et (vk3 0 1 8 ?_)
 refine vif ?_ ?_
 ·intro hc8
  try simp only [dn] at hc8
  refine kt (vk2 0 1 (vc_block (vc_seq (sr ?_))))
  iterate 2 refine ym ?_
  refine vy (y_ixs (k := j) rfl rfl underlying9 rfl (by omega)) ?_
  refine vc_e (e_call [_] rfl rfl call74 rfl (rblank_any _ _) ?_)
  rintro _ w ⟨rfl, rfl⟩
  refine et (vk3 0 1 12 ?_)
  refine vif ?_ ?_
  ·intro hc12
   try simp only [dn] at hc12
   refine sr ?_
   refine ym ?_
   refine vy (y_add rfl rfl rfl (by omega) (by omega)) ?_
   refine ya ?_
   refine et (vk2 0 1 (vc_exit (vq_then_exit (vq_block_exit ?_))))
   refine vq_again (j + 1) ⟨rfl, rfl, trivial⟩ st ?_ ?_
   ·exact ⟨by omega, by rw [drop_cons (by omega), skip_blank (by assumption)] at he; omega, rfl⟩
   omega
  intro hc12
  try simp only [dn] at hc12
  refine kt (vk2 0 1 (vc_seq (sr ?_)))
  iterate 2 refine ym ?_
  refine vy (y_ixs (k := j) rfl rfl underlying9 rfl (by omega)) ?_
  refine vy (y_nei rfl rfl) ?_
  refine vmb ?_ ?_
  ·intro hg19
   try simp only [dn] at hg19
   iterate 5 refine vsk ?_
   refine ypt ?_
   refine ym ?_
   iterate 5 refine vsk ?_
   refine ypt ?_
   refine et (vk3 0 1 32 ?_)
   refine vc_ift rfl ?_
   refine sr ?_
   refine ym ?_
   refine ya ?_
   refine et (vk1 4 (vc_ret (vq_then_ret (vq_block_ret (vq_then_ret (vq_block_ret (vq_then_ret ?_)))))))
   refine vq_ret1 st (.inl rfl) results62 (.tmp rfl) ?_
   refine ⟨_, rfl, ?_⟩
   refine ⟨?_, rfl⟩
   rcases Nat.lt_or_ge j s.length with hjl | hjl
   case inr =>
    obtain rfl : j = s.length := by omega
    simp only [List.drop_length, skip_nil] at he
    rw [← he]; rfl
   case inl =>
      first
      | (have hr : isRem (s.drop j) = false := isRem_no (by omega) (by (left; omega))
         have hd := drop_cons (s := s) (j := j) (by omega)
         rw [hd] at hr
         rw [hd, skip_other (by assumption) hr] at he
         rw [← he]; rfl)
  intro hg19
  try simp only [dn] at hg19
  refine ym ?_
  refine vy (y_add rfl rfl rfl (by omega) (by omega)) ?_
  refine ym ?_
  refine vy (y_lens rfl underlying9) ?_
  refine vy (y_geq rfl rfl) ?_
  refine ypf ?_
  refine vmb ?_ ?_
  ·intro hg26
   try simp only [dn] at hg26
   iterate 5 refine vsk ?_
   refine ypt ?_
   refine et (vk3 0 1 32 ?_)
   refine vc_ift rfl ?_
   refine sr ?_
   refine ym ?_
   refine ya ?_
   refine et (vk1 4 (vc_ret (vq_then_ret (vq_block_ret (vq_then_ret (vq_block_ret (vq_then_ret ?_)))))))
   refine vq_ret1 st (.inl rfl) results62 (.tmp rfl) ?_
   refine ⟨_, rfl, ?_⟩
   refine ⟨?_, rfl⟩
   rcases Nat.lt_or_ge j s.length with hjl | hjl
   case inr =>
    obtain rfl : j = s.length := by omega
    simp only [List.drop_length, skip_nil] at he
    rw [← he]; rfl
   case inl =>
      first
      | (have hr : isRem (s.drop j) = false := isRem_no (by omega) (by (right; left; omega))
         have hd := drop_cons (s := s) (j := j) (by omega)
         rw [hd] at hr
         rw [hd, skip_other (by assumption) hr] at he
         rw [← he]; rfl)
  intro hg26
  try simp only [dn] at hg26
  iterate 2 refine ym ?_
  refine vy (y_add rfl rfl rfl (by omega) (by omega)) ?_
  refine vy (y_ixs (k := (j + 1)) rfl rfl underlying9 rfl (by omega)) ?_
  refine vy (y_nei rfl rfl) ?_
  refine ypf ?_
  refine et (vk3 0 1 32 ?_)
  refine vif ?_ ?_
  ·intro hc32
   try simp only [dn] at hc32
   refine sr ?_
   refine ym ?_
   refine ya ?_
   refine et (vk1 4 (vc_ret (vq_then_ret (vq_block_ret (vq_then_ret (vq_block_ret (vq_then_ret ?_)))))))
   refine vq_ret1 st (.inl rfl) results62 (.tmp rfl) ?_
   refine ⟨_, rfl, ?_⟩
   refine ⟨?_, rfl⟩
   rcases Nat.lt_or_ge j s.length with hjl | hjl
   case inr =>
    obtain rfl : j = s.length := by omega
    simp only [List.drop_length, skip_nil] at he
    rw [← he]; rfl
   case inl =>
      first
      | (have hr : isRem (s.drop j) = false := isRem_no (by omega) (by (right; right; omega))
         have hd := drop_cons (s := s) (j := j) (by omega)
         rw [hd] at hr
         rw [hd, skip_other (by assumption) hr] at he
         rw [← he]; rfl)
  intro hc32
  try simp only [dn] at hc32
  have hr : isRem (s.drop j) = true := isRem_cons (by omega) (by assumption) (by omega) (by assumption)
  refine kt (vk2 0 1 (vc_block ?_))
  refine vc_loop (w0 := _) (M := _) (fun (m : Nat) => [(0, str s), (1, .int .i64 (m : Int))]) (fun _ => []) (fun m w'' => j ≤ m ∧ m ≤ s.length ∧ m + toLf (s.drop m) = j + toLf (s.drop j) ∧ w'' = w) (fun m => s.length - m) j ⟨rfl, rfl, trivial⟩ st ⟨by omega, by omega, rfl, rfl⟩ ?_
  rintro m w' ⟨hjm, hm, hme, rfl⟩ st
  refine vc_seq (sr ?_)
  iterate 2 refine ym ?_
  refine vy (y_lens rfl underlying9) ?_
  refine vy (y_lss rfl rfl) ?_
  refine vmb ?_ ?_
  ·intro hg38
   try simp only [dn] at hg38
   iterate 2 refine ym ?_
   refine vy (y_ixs (k := _) rfl rfl underlying9 rfl (by omega)) ?_
   refine vy (y_nei rfl rfl) ?_
   refine ypt ?_
   refine et (vk3 0 1 43 ?_)
   refine vif ?_ ?_
   ·intro hc43
    try simp only [dn] at hc43
    refine kt (vk2 0 1 (vc_block (vc_region ?_)))
    refine ym ?_
    refine vy (y_add rfl rfl rfl (by omega) (by omega)) ?_
    refine ya ?_
    refine vc_end (vq_block ?_)
    refine vq_again (m + 1) ⟨rfl, rfl, trivial⟩ st ?_ ?_
    ·exact ⟨by omega, by omega, by have := toLf_step (s := s) (j := m) (by omega) (by assumption); omega, rfl⟩
    omega
   intro hc43
   try simp only [dn] at hc43
   refine vc_exit (vq_then_exit (vq_then_exit (vq_block_exit (vq_block ?_))))
   refine vq_again m ⟨rfl, rfl, trivial⟩ st ?_ ?_
   ·have hz := toLf_here (s := s) (j := m) (by (right; assumption))
    exact ⟨by omega, by rw [skip_rem hr, List.drop_drop] at he; rw [show m = j + toLf (List.drop j s) by omega]; omega, rfl⟩
   have := toLf_pos hr; have hz := toLf_here (s := s) (j := m) (by (right; assumption)); omega
  intro hg38
  try simp only [dn] at hg38
  iterate 4 refine vsk ?_
  refine ypf ?_
  refine et (vk3 0 1 43 ?_)
  refine vc_iff rfl ?_
  refine vc_exit (vq_then_exit (vq_then_exit (vq_block_exit (vq_block ?_))))
  refine vq_again m ⟨rfl, rfl, trivial⟩ st ?_ ?_
  ·have hz := toLf_here (s := s) (j := m) (by (left; omega))
   exact ⟨by omega, by rw [skip_rem hr, List.drop_drop] at he; rw [show m = j + toLf (List.drop j s) by omega]; omega, rfl⟩
  have := toLf_pos hr; have hz := toLf_here (s := s) (j := m) (by (left; omega)); omega
 intro hc8
 try simp only [dn] at hc8
 refine vc_exit (vq_then_exit (vq_then_exit (vq_block_exit (vq_then (vk1 1 (sr ?_))))))
 refine ym ?_
 refine ya ?_
 refine et (vk1 4 (vc_ret ?_))
 refine vq_ret1 st (.inl rfl) results62 (.tmp rfl) ?_
 refine ⟨_, rfl, ?_⟩
 refine ⟨?_, rfl⟩
 rcases Nat.lt_or_ge j s.length with hjl | hjl
 case inr =>
  obtain rfl : j = s.length := by omega
  simp only [List.drop_length, skip_nil] at he
  rw [← he]; rfl
 case inl =>
    (exfalso; omega)
set_option maxHeartbeats 1000000 in
theorem rnumber_any (l : List UInt8) (w : World) (hs : l.length ≤ 9000000000000000000) :
    Ret Tryz.prog 78 [str l] w fun v w' => v = .tuple [.int .i64 ((numR l).1 : Int), .bool (numR l).2].toArray ∧ w' = w := by
 refine ret_of [_] func78 rfl ntmps78 rfl ?_
 have st := St.init w []
 refine sr ?_
 iterate 2 refine ya ?_
 refine et (vk1 0 (vc_seq (sr ?_)))
 refine ym ?_
 refine vy (y_eqs rfl rfl) ?_
 refine vmb ?_ ?_
 ·intro hg9
  try simp only [dn] at hg9
  iterate 8 refine vsk ?_
  refine ypt ?_
  refine et (vk2 0 18 ?_)
  refine vc_ift rfl ?_
  refine sr ?_
  iterate 2 refine ya ?_
  refine et (vk2 2 3 (vc_ret (vq_then_ret ?_)))
  refine vq_ret2 st (.inl rfl) results78 (.tmp rfl) (.tmp rfl) ?_
  refine ⟨_, rfl, ?_⟩
  refine ⟨?_, rfl⟩
  have fin : ∀ (a : Nat) (b : Bool), numR l = (a, b) → (Value.tuple [.int .i64 (a : Int), .bool b].toArray) = .tuple [.int .i64 ((numR l).1 : Int), .bool (numR l).2].toArray := fun a b h => by rw [h]
  (refine fin 0 false ?_; unfold numR; rw [if_pos (.inl (by assumption))])
 intro hg9
 try simp only [dn] at hg9
 refine ym ?_
 refine vy (y_ixs (k := 0) rfl rfl underlying9 rfl (by (rcases l with _ | ⟨_, _⟩ <;> simp at * ))) ?_
 refine vy (y_eqi rfl rfl) ?_
 refine vmb ?_ ?_
 ·intro hg13
  try simp only [dn] at hg13
  refine ym ?_
  refine vy (y_lens rfl underlying9) ?_
  refine vy (y_gtr rfl rfl) ?_
  refine ypt ?_
  refine ypf ?_
  refine et (vk2 0 18 ?_)
  refine vif ?_ ?_
  ·intro hc18
   try simp only [dn] at hc18
   refine sr ?_
   iterate 2 refine ya ?_
   refine et (vk2 2 3 (vc_ret (vq_then_ret ?_)))
   refine vq_ret2 st (.inl rfl) results78 (.tmp rfl) (.tmp rfl) ?_
   refine ⟨_, rfl, ?_⟩
   refine ⟨?_, rfl⟩
   have fin : ∀ (a : Nat) (b : Bool), numR l = (a, b) → (Value.tuple [.int .i64 (a : Int), .bool b].toArray) = .tuple [.int .i64 ((numR l).1 : Int), .bool (numR l).2].toArray := fun a b h => by rw [h]
   (refine fin 0 false ?_; unfold numR; rw [if_pos (.inr (.inl ⟨by omega, u8_eq48 (by assumption)⟩))])
  intro hc18
  try simp only [dn] at hc18
  refine kt (vk1 0 (sr ?_))
  refine ya ?_
  refine et (vk2 0 4 (vc_seq (sr ?_)))
  refine ya ?_
  refine et (vk3 0 4 5 (vc_block ?_))
  refine vc_loop (w0 := _) (M := _) (fun (x : Nat × Nat) => [(0, str l), (4, .int .u64 (x.2 : Int)), (5, .int .i64 (x.1 : Int))]) (fun _ => []) (fun x w' => x.1 ≤ l.length ∧ (l.take x.1).all isDigit = true ∧ x.2 = numVal (l.take x.1) ∧ x.2 ≤ 9223372036854775807 ∧ w' = w) (fun x => l.length - x.1) (0, 0) ⟨rfl, rfl, rfl, trivial⟩ st ⟨by simp, by simp, by simp [numVal], by simp, rfl⟩ ?_
  rintro ⟨j, n⟩ w' ⟨hj, hall, hn, hM, rfl⟩ st
  dsimp only at *
  refine vc_seq (sr ?_)
  iterate 2 refine ym ?_
  refine vy (y_lens rfl underlying9) ?_
  refine vy (y_lss rfl rfl) ?_
  refine et (vk4 0 4 5 22 ?_)
  refine vif ?_ ?_
  ·intro hc22
   try simp only [dn] at hc22
   refine kt (vk3 0 4 5 (vc_seq (vc_block (sr ?_))))
   iterate 2 refine ym ?_
   refine vy (y_ixs (k := j) rfl rfl underlying9 rfl (by omega)) ?_
   refine vy (y_subk rfl rfl (by rw [wrap_u8])) ?_
   refine vy (y_cvi rfl underlying105 underlying5 (by rw [wrap_u64])) ?_
   refine ya ?_
   refine et (vk4 0 4 5 6 (vc_seq (sr ?_)))
   iterate 2 refine ym ?_
   refine vy (y_ixs (k := j) rfl rfl underlying9 rfl (by omega)) ?_
   refine vc_e (e_call [_] rfl rfl call76 rfl (rdigit_any _ _) ?_)
   rintro _ w ⟨rfl, rfl⟩
   refine vy (y_not rfl) ?_
   refine vmb ?_ ?_
   ·intro hg35
    try simp only [dn] at hg35
    iterate 5 refine vsk ?_
    refine ypt ?_
    refine et (vk5 0 4 5 6 41 ?_)
    refine vc_ift rfl ?_
    refine sr ?_
    iterate 2 refine ya ?_
    refine et (vk2 2 3 (vc_ret (vq_then_ret (vq_block_ret (vq_then_ret (vq_then_ret (vq_block_ret (vq_then_ret ?_))))))))
    refine vq_ret2 st (.inl rfl) results78 (.tmp rfl) (.tmp rfl) ?_
    refine ⟨_, rfl, ?_⟩
    refine ⟨?_, rfl⟩
    have fin : ∀ (a : Nat) (b : Bool), numR l = (a, b) → (Value.tuple [.int .i64 (a : Int), .bool b].toArray) = .tuple [.int .i64 ((numR l).1 : Int), .bool (numR l).2].toArray := fun a b h => by rw [h]
    (refine fin 0 false ?_; unfold numR; rw [if_pos (.inr (.inr (.inl (all_no (m := j) (by omega) (by assumption)))))])
   intro hg35
   try simp only [dn] at hg35
   have hdg := digit_iff (by assumption)
   iterate 2 refine ym ?_
   refine vy (y_subk rfl rfl (by rw [wrap_u64]; omega : _ = ((9223372036854775807 - ((l.getD j 0).toNat - 48) : Nat) : Int))) ?_
   refine vy (y_quok rfl rfl (by omega) (by omega) (by rw [wrap_u64]; omega : _ = (((9223372036854775807 - ((l.getD j 0).toNat - 48)) / 10 : Nat) : Int))) ?_
   refine vy (y_gtr rfl rfl) ?_
   refine ypf ?_
   refine et (vk5 0 4 5 6 41 ?_)
   refine vif ?_ ?_
   ·intro hc41
    try simp only [dn] at hc41
    refine sr ?_
    iterate 2 refine ya ?_
    refine et (vk2 2 3 (vc_ret (vq_then_ret (vq_block_ret (vq_then_ret (vq_then_ret (vq_block_ret (vq_then_ret ?_))))))))
    refine vq_ret2 st (.inl rfl) results78 (.tmp rfl) (.tmp rfl) ?_
    refine ⟨_, rfl, ?_⟩
    refine ⟨?_, rfl⟩
    have fin : ∀ (a : Nat) (b : Bool), numR l = (a, b) → (Value.tuple [.int .i64 (a : Int), .bool b].toArray) = .tuple [.int .i64 ((numR l).1 : Int), .bool (numR l).2].toArray := fun a b h => by rw [h]
    first
    | (refine fin 0 false ?_
       have h1 := numVal_step (l := l) (j := j) (by omega)
       have h2 := numVal_take_le l (j + 1)
       unfold numR; rw [if_pos (.inr (.inr (.inr (by omega))))])
   intro hc41
   try simp only [dn] at hc41
   refine kt (vk4 0 4 5 6 (vc_region ?_))
   refine ym ?_
   refine vy (y_mulk rfl rfl (by rw [wrap_u64]; omega : _ = ((10 * n : Nat) : Int))) ?_
   refine ym ?_
   refine vy (y_addk rfl rfl (by rw [wrap_u64]; omega : _ = ((10 * n + ((l.getD j 0).toNat - 48) : Nat) : Int))) ?_
   refine ya ?_
   refine vc_end (vq_block (vq_then (vk3 0 4 5 (vc_region ?_))))
   refine ym ?_
   refine vy (y_add rfl rfl rfl (by omega) (by omega)) ?_
   refine ya ?_
   refine vc_end ?_
   refine vq_again (j + 1, 10 * n + ((l.getD j 0).toNat - 48)) ⟨rfl, rfl, rfl, trivial⟩ st ?_ ?_
   ·exact ⟨by dsimp only; omega, all_take_succ (by omega) hall (by assumption), by dsimp only; rw [numVal_step (by omega), ← hn], by dsimp only; omega, rfl⟩
   dsimp only; omega
  intro hc22
  try simp only [dn] at hc22
  refine vc_exit (vq_then_exit (vq_then_exit (vq_block_exit (vq_then (vk1 4 (sr ?_))))))
  refine ym ?_
  refine vy (y_cvi rfl underlying2 underlying105 (IntWalk.i64_in _ ⟨by omega, by omega⟩ : _ = (n : Int))) ?_
  iterate 2 refine ya ?_
  refine et (vk2 2 3 (vc_ret ?_))
  refine vq_ret2 st (.inl rfl) results78 (.tmp rfl) (.tmp rfl) ?_
  refine ⟨_, rfl, ?_⟩
  refine ⟨?_, rfl⟩
  have fin : ∀ (a : Nat) (b : Bool), numR l = (a, b) → (Value.tuple [.int .i64 (a : Int), .bool b].toArray) = .tuple [.int .i64 ((numR l).1 : Int), .bool (numR l).2].toArray := fun a b h => by rw [h]
  first
  | (obtain rfl : j = l.length := by omega
     rw [List.take_length] at hn hall
     refine fin n true ?_
     unfold numR
     rw [if_neg, hn]
     rintro (h | ⟨h1, h2⟩ | h | h)
     · contradiction
     · have h3 : ((l.getD 0 0).toNat : Int) = 48 := by rw [h2]; rfl
       omega
     · rw [hall] at h; cases h
     · omega)
 intro hg13
 try simp only [dn] at hg13
 iterate 3 refine vsk ?_
 iterate 2 refine ypf ?_
 refine et (vk2 0 18 ?_)
 refine vc_iff rfl ?_
 refine kt (vk1 0 (sr ?_))
 refine ya ?_
 refine et (vk2 0 4 (vc_seq (sr ?_)))
 refine ya ?_
 refine et (vk3 0 4 5 (vc_block ?_))
 refine vc_loop (w0 := _) (M := _) (fun (x : Nat × Nat) => [(0, str l), (4, .int .u64 (x.2 : Int)), (5, .int .i64 (x.1 : Int))]) (fun _ => []) (fun x w' => x.1 ≤ l.length ∧ (l.take x.1).all isDigit = true ∧ x.2 = numVal (l.take x.1) ∧ x.2 ≤ 9223372036854775807 ∧ w' = w) (fun x => l.length - x.1) (0, 0) ⟨rfl, rfl, rfl, trivial⟩ st ⟨by simp, by simp, by simp [numVal], by simp, rfl⟩ ?_
 rintro ⟨j, n⟩ w' ⟨hj, hall, hn, hM, rfl⟩ st
 dsimp only at *
 refine vc_seq (sr ?_)
 iterate 2 refine ym ?_
 refine vy (y_lens rfl underlying9) ?_
 refine vy (y_lss rfl rfl) ?_
 refine et (vk4 0 4 5 22 ?_)
 refine vif ?_ ?_
 ·intro hc22
  try simp only [dn] at hc22
  refine kt (vk3 0 4 5 (vc_seq (vc_block (sr ?_))))
  iterate 2 refine ym ?_
  refine vy (y_ixs (k := j) rfl rfl underlying9 rfl (by omega)) ?_
  refine vy (y_subk rfl rfl (by rw [wrap_u8])) ?_
  refine vy (y_cvi rfl underlying105 underlying5 (by rw [wrap_u64])) ?_
  refine ya ?_
  refine et (vk4 0 4 5 6 (vc_seq (sr ?_)))
  iterate 2 refine ym ?_
  refine vy (y_ixs (k := j) rfl rfl underlying9 rfl (by omega)) ?_
  refine vc_e (e_call [_] rfl rfl call76 rfl (rdigit_any _ _) ?_)
  rintro _ w ⟨rfl, rfl⟩
  refine vy (y_not rfl) ?_
  refine vmb ?_ ?_
  ·intro hg35
   try simp only [dn] at hg35
   iterate 5 refine vsk ?_
   refine ypt ?_
   refine et (vk5 0 4 5 6 41 ?_)
   refine vc_ift rfl ?_
   refine sr ?_
   iterate 2 refine ya ?_
   refine et (vk2 2 3 (vc_ret (vq_then_ret (vq_block_ret (vq_then_ret (vq_then_ret (vq_block_ret (vq_then_ret ?_))))))))
   refine vq_ret2 st (.inl rfl) results78 (.tmp rfl) (.tmp rfl) ?_
   refine ⟨_, rfl, ?_⟩
   refine ⟨?_, rfl⟩
   have fin : ∀ (a : Nat) (b : Bool), numR l = (a, b) → (Value.tuple [.int .i64 (a : Int), .bool b].toArray) = .tuple [.int .i64 ((numR l).1 : Int), .bool (numR l).2].toArray := fun a b h => by rw [h]
   (refine fin 0 false ?_; unfold numR; rw [if_pos (.inr (.inr (.inl (all_no (m := j) (by omega) (by assumption)))))])
  intro hg35
  try simp only [dn] at hg35
  have hdg := digit_iff (by assumption)
  iterate 2 refine ym ?_
  refine vy (y_subk rfl rfl (by rw [wrap_u64]; omega : _ = ((9223372036854775807 - ((l.getD j 0).toNat - 48) : Nat) : Int))) ?_
  refine vy (y_quok rfl rfl (by omega) (by omega) (by rw [wrap_u64]; omega : _ = (((9223372036854775807 - ((l.getD j 0).toNat - 48)) / 10 : Nat) : Int))) ?_
  refine vy (y_gtr rfl rfl) ?_
  refine ypf ?_
  refine et (vk5 0 4 5 6 41 ?_)
  refine vif ?_ ?_
  ·intro hc41
   try simp only [dn] at hc41
   refine sr ?_
   iterate 2 refine ya ?_
   refine et (vk2 2 3 (vc_ret (vq_then_ret (vq_block_ret (vq_then_ret (vq_then_ret (vq_block_ret (vq_then_ret ?_))))))))
   refine vq_ret2 st (.inl rfl) results78 (.tmp rfl) (.tmp rfl) ?_
   refine ⟨_, rfl, ?_⟩
   refine ⟨?_, rfl⟩
   have fin : ∀ (a : Nat) (b : Bool), numR l = (a, b) → (Value.tuple [.int .i64 (a : Int), .bool b].toArray) = .tuple [.int .i64 ((numR l).1 : Int), .bool (numR l).2].toArray := fun a b h => by rw [h]
   first
   | (refine fin 0 false ?_
      have h1 := numVal_step (l := l) (j := j) (by omega)
      have h2 := numVal_take_le l (j + 1)
      unfold numR; rw [if_pos (.inr (.inr (.inr (by omega))))])
  intro hc41
  try simp only [dn] at hc41
  refine kt (vk4 0 4 5 6 (vc_region ?_))
  refine ym ?_
  refine vy (y_mulk rfl rfl (by rw [wrap_u64]; omega : _ = ((10 * n : Nat) : Int))) ?_
  refine ym ?_
  refine vy (y_addk rfl rfl (by rw [wrap_u64]; omega : _ = ((10 * n + ((l.getD j 0).toNat - 48) : Nat) : Int))) ?_
  refine ya ?_
  refine vc_end (vq_block (vq_then (vk3 0 4 5 (vc_region ?_))))
  refine ym ?_
  refine vy (y_add rfl rfl rfl (by omega) (by omega)) ?_
  refine ya ?_
  refine vc_end ?_
  refine vq_again (j + 1, 10 * n + ((l.getD j 0).toNat - 48)) ⟨rfl, rfl, rfl, trivial⟩ st ?_ ?_
  ·exact ⟨by dsimp only; omega, all_take_succ (by omega) hall (by assumption), by dsimp only; rw [numVal_step (by omega), ← hn], by dsimp only; omega, rfl⟩
  dsimp only; omega
 intro hc22
 try simp only [dn] at hc22
 refine vc_exit (vq_then_exit (vq_then_exit (vq_block_exit (vq_then (vk1 4 (sr ?_))))))
 refine ym ?_
 refine vy (y_cvi rfl underlying2 underlying105 (IntWalk.i64_in _ ⟨by omega, by omega⟩ : _ = (n : Int))) ?_
 iterate 2 refine ya ?_
 refine et (vk2 2 3 (vc_ret ?_))
 refine vq_ret2 st (.inl rfl) results78 (.tmp rfl) (.tmp rfl) ?_
 refine ⟨_, rfl, ?_⟩
 refine ⟨?_, rfl⟩
 have fin : ∀ (a : Nat) (b : Bool), numR l = (a, b) → (Value.tuple [.int .i64 (a : Int), .bool b].toArray) = .tuple [.int .i64 ((numR l).1 : Int), .bool (numR l).2].toArray := fun a b h => by rw [h]
 first
 | (obtain rfl : j = l.length := by omega
    rw [List.take_length] at hn hall
    refine fin n true ?_
    unfold numR
    rw [if_neg, hn]
    rintro (h | ⟨h1, h2⟩ | h | h)
    · contradiction
    · have h3 : ((l.getD 0 0).toNat : Int) = 48 := by rw [h2]; rfl
      contradiction
    · rw [hall] at h; cases h
    · omega)
end Go.Proofs.YtggnfanphcaamaaGreatDoor

