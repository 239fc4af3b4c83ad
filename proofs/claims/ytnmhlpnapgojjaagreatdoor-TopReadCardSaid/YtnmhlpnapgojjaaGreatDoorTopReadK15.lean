/- A part of the proof: contracts of functions and plain laws; each theorem says its own conditions. -/
import Derived.Test.YtnmhlpnapgojjaaGreatDoorTopReadK14
import Derived.Test.YtnmhlpnapgojjaaGreatDoorTopReadK12
import Derived.Test.YtnmhlpnapgojjaaGreatDoorTopReadK10
set_option linter.unusedVariables false
set_option linter.unusedSimpArgs false
/- The tokens of statements and programs, and that they are parsed as what they are of. -/
namespace ParS
open Sx LexS

/-! ### the same, but for places: what is left without places is the same -/
abbrev zS : Sm → Sm := trS idS (fun _ => 0)
abbrev zEs : List Ex → List Ex := trEs idS (fun _ => 0)
abbrev zSs : List Sm → List Sm := trSs idS (fun _ => 0)
abbrev zD : Dc → Dc := trD idS (fun _ => 0)
abbrev zT : Th → Th := trT idS (fun _ => 0)
abbrev zP : Pg → Pg := trP idS (fun _ => 0)
theorem zipA_iff {α β : Type} {f : α → α → Bool} {g : α → β} : ∀ {a b : List α}, (∀ x ∈ a, ∀ y, f x y = true ↔ g x = g y) → (zipA f a b = true ↔ a.map g = b.map g)
  | [], [], _ => by simp [zipA]
  | x :: r, y :: s, h => by
    simp only [zipA, Bool.and_eq_true, List.map_cons, List.cons.injEq]
    rw [h x (.head _) y, zipA_iff (a := r) (b := s) fun z hz => h z (.tail _ hz)]
  | [], _ :: _, _ => by simp [zipA]
  | _ :: _, [], _ => by simp [zipA]
theorem sameE_iff : ∀ (n : Nat) (x : Ex), SizeOf.sizeOf x = n → ∀ y, sameE x y = true ↔ zE x = zE y := by
  intro n
  refine Nat.strongRecOn n fun n ih => ?_
  intro x hn y
  have hk : zipA sameE x.kids y.kids = true ↔ x.kids.map zE = y.kids.map zE := zipA_iff fun z hz w => ih _ (by have := memE_lt hz; omega) z rfl w
  rw [sameE_eq, Bool.and_eq_true, hk, decide_eq_true_eq]
  cases x with
  | mk k op wd nm kids a =>
  cases y with
  | mk k' op' wd' nm' kids' a' =>
  simp only [zE, trE, trEs_map, Ex.k, Ex.op, Ex.wd, Ex.nm, Ex.kids, idS, decide_eq_true_eq, Ex.mk.injEq, and_true]
  constructor
  · rintro ⟨⟨h1, h2, h3, h4⟩, h5⟩; exact ⟨h1, h2, h3, h4, h5⟩
  · rintro ⟨h1, h2, h3, h4, h5⟩; exact ⟨⟨h1, h2, h3, h4⟩, h5⟩
theorem sameEs_iff {a b : List Ex} : zipA sameE a b = true ↔ zEs a = zEs b := by
  show _ ↔ trEs idS (fun _ => 0) a = trEs idS (fun _ => 0) b
  rw [trEs_map, trEs_map]; exact zipA_iff fun x _ y => sameE_iff _ x rfl y
theorem sameS_iff : ∀ (n : Nat) (x : Sm), SizeOf.sizeOf x = n → ∀ y, sameS x y = true ↔ zS x = zS y := by
  intro n
  refine Nat.strongRecOn n fun n ih => ?_
  intro x hn y
  have hk : zipA sameS x.body y.body = true ↔ x.body.map zS = y.body.map zS := zipA_iff fun z hz w => ih _ (by have := memS_lt (.inl hz); omega) z rfl w
  have hl : zipA sameS x.els y.els = true ↔ x.els.map zS = y.els.map zS := zipA_iff fun z hz w => ih _ (by have := memS_lt (.inr hz); omega) z rfl w
  rw [sameS_eq, Bool.and_eq_true, Bool.and_eq_true, Bool.and_eq_true, hk, hl, sameEs_iff, decide_eq_true_eq]
  cases x with
  | mk k nm other e body els a =>
  cases y with
  | mk k' nm' other' e' body' els' a' =>
  simp only [zS, trS, trSs_map, Sm.k, Sm.nm, Sm.other, Sm.e, Sm.body, Sm.els, idS, decide_eq_true_eq, Sm.mk.injEq, and_true]
  constructor
  · rintro ⟨⟨⟨⟨h1, h2, h3⟩, h4⟩, h5⟩, h6⟩; exact ⟨h1, h2, h3, h4, h5, h6⟩
  · rintro ⟨h1, h2, h3, h4, h5, h6⟩; exact ⟨⟨⟨⟨h1, h2, h3⟩, h4⟩, h5⟩, h6⟩
theorem sameSs_iff {a b : List Sm} : zipA sameS a b = true ↔ zSs a = zSs b := by
  show _ ↔ trSs idS (fun _ => 0) a = trSs idS (fun _ => 0) b
  rw [trSs_map, trSs_map]; exact zipA_iff fun x _ y => sameS_iff _ x rfl y
theorem sameD_iff {x y : Dc} : sameD x y = true ↔ zD x = zD y := by simp [sameD, zD, trD, idS]
theorem sameDs_iff {a b : List Dc} : zipA sameD a b = true ↔ a.map zD = b.map zD := zipA_iff fun x _ y => sameD_iff
theorem sameT_iff {x y : Th} : sameT x y = true ↔ zT x = zT y := by
  simp only [sameT, Bool.and_eq_true, decide_eq_true_eq, sameDs_iff, sameSs_iff, zT, trT, idS, Th.mk.injEq, and_true]
  constructor
  · rintro ⟨⟨h1, h2⟩, h3⟩; exact ⟨h1, h2, h3⟩
  · rintro ⟨h1, h2, h3⟩; exact ⟨⟨h1, h2⟩, h3⟩
theorem sameP_iff {x y : Pg} : sameP x y = true ↔ zP x = zP y := by
  have ht : zipA sameT x.threads y.threads = true ↔ x.threads.map zT = y.threads.map zT := zipA_iff fun x _ y => sameT_iff
  simp only [sameP, Bool.and_eq_true, sameDs_iff, ht, zP, trP, Pg.mk.injEq]
  constructor
  · rintro ⟨⟨h1, h2⟩, h3⟩; exact ⟨h1, h2, h3⟩
  · rintro ⟨h1, h2, h3⟩; exact ⟨⟨h1, h2⟩, h3⟩

/-! ### tokens -/
def tkX (e : List Ex) : List Tok := match e with | x :: _ => tkE x | [] => []
mutual
def tkS : Sm → List Tok
  | .mk k nm other e body els a =>
    if k = 1 then nmT nm :: sgT [61] :: (tkX e ++ [sgT [59]])
    else if k = 2 then nmT nm :: sgT [61] :: wdT wSwap :: sgT [40] :: nmT other :: sgT [44] :: (tkX e ++ [sgT [41], sgT [59]])
    else if k = 6 then wdT wPrint :: (tkX e ++ [sgT [59]])
    else if k = 7 then [wdT wSkip, sgT [59]]
    else if k = 5 then wdT wLock :: nmT nm :: sgT [123] :: (tkSs body ++ [sgT [125]])
    else wdT (if k = 4 then wWhile else wIf) :: sgT [40] :: (tkX e ++ (sgT [41] :: sgT [123] :: (tkSs body ++ (sgT [125] :: (if 0 < els.length then wdT wElse :: sgT [123] :: (tkSs els ++ [sgT [125]]) else [])))))
termination_by structural s => s
def tkSs : List Sm → List Tok
  | [] => []
  | s :: r => tkS s ++ tkSs r
termination_by structural l => l
end
theorem tkS_head (s : Sm) : ∃ t r, tkS s = t :: r ∧ ((∃ x, t = nmT x) ∨ ∃ x, t = wdT x ∧ x ≠ wElse) := by
  cases s with
  | mk k nm other e body els a =>
  rw [tkS]
  split
  · exact ⟨_, _, rfl, .inl ⟨_, rfl⟩⟩
  split
  · exact ⟨_, _, rfl, .inl ⟨_, rfl⟩⟩
  split
  · exact ⟨_, _, rfl, .inr ⟨_, rfl, by decide⟩⟩
  split
  · exact ⟨_, _, rfl, .inr ⟨_, rfl, by decide⟩⟩
  split
  · exact ⟨_, _, rfl, .inr ⟨_, rfl, by decide⟩⟩
  · refine ⟨_, _, rfl, .inr ⟨_, rfl, ?_⟩⟩
    split <;> decide
theorem tkS_not (s : Sm) (Z : List Tok) : isT wElse (tkS s ++ Z) = false ∧ isT [125] (tkS s ++ Z) = false ∧ 0 < (tkS s).length := by
  obtain ⟨t, r, h, h1⟩ := tkS_head s
  rw [h]
  rcases h1 with ⟨x, rfl⟩ | ⟨x, rfl, hx⟩
  · exact ⟨isT_nm _ _ _, isT_nm _ _ _, by simp⟩
  · refine ⟨by rw [List.cons_append, isT_wd]; simp [hx], ?_, by simp⟩
    rw [List.cons_append, isT_wd]
    have : x ≠ [125] := by
      rintro rfl
      have h2 := congrArg List.head? h
      cases s with
      | mk k nm other e body els a =>
      rw [tkS] at h2
      revert h2
      split
      · simp [nmT, wdT]
      split
      · simp [nmT, wdT]
      split
      · simp [wdT, wPrint]
      split
      · simp [wdT, wSkip]
      split
      · simp [wdT, wLock]
      · split <;> simp [wdT, wWhile, wIf]
    simp [this]
theorem tkS_nolocal (s : Sm) (d : Nat) (hr : rightS s d = true) (Z : List Tok) {w : List UInt8} (hw : isWord w = true) (h : w = wLocal ∨ w = wShared ∨ w = wThread) : isT w (tkS s ++ Z) = false := by
  cases s with
  | mk k nm other e body els a =>
  rw [tkS]
  split
  · exact isT_nm _ _ _
  split
  · exact isT_nm _ _ _
  split
  · rw [List.cons_append, isT_wd]; rcases h with rfl | rfl | rfl <;> decide
  split
  · rw [List.cons_append, isT_wd]; rcases h with rfl | rfl | rfl <;> decide
  split
  · rw [List.cons_append, isT_wd]; rcases h with rfl | rfl | rfl <;> decide
  · rw [List.cons_append, isT_wd]
    split <;> (rcases h with rfl | rfl | rfl <;> decide)
theorem tkSs_not (l : List Sm) {Z : List Tok} (hZ : isT wElse Z = false) : isT wElse (tkSs l ++ Z) = false := by
  cases l with
  | nil => exact hZ
  | cons s r => rw [tkSs, List.append_assoc]; exact (tkS_not s _).1
theorem parT_head {b : Bool} {l : List Tok} (h : ∃ t r, l = t :: r ∧ ((∃ n, t = nuT n) ∨ (∃ y, t = nmT y) ∨ ∃ y, t = sgT y ∧ y.length = 1)) (m : List Tok) : ∃ t r, parT b l ++ m = t :: r ∧ ((∃ n, t = nuT n) ∨ (∃ y, t = nmT y) ∨ ∃ y, t = sgT y ∧ y.length = 1) := by
  unfold parT; split
  · exact ⟨_, _, rfl, .inr (.inr ⟨_, rfl, rfl⟩)⟩
  · obtain ⟨t, r, rfl, h⟩ := h; exact ⟨t, r ++ m, rfl, h⟩
theorem tkE_head : ∀ (n : Nat) (x : Ex), SizeOf.sizeOf x = n → ∀ d, rightE x d = true → ∃ t r, tkE x = t :: r ∧ ((∃ n, t = nuT n) ∨ (∃ y, t = nmT y) ∨ ∃ y, t = sgT y ∧ y.length = 1) := by
  intro n
  refine Nat.strongRecOn n fun n ih => ?_
  intro x hn d hr
  have hcase := (rightE_iff.1 hr).2
  cases x with
  | mk k op wd nm kids a =>
  simp only [exk, exop, exwd, exnm, exkids] at hcase
  rcases hcase with ⟨rfl, h1, rfl, rfl, rfl⟩ | ⟨rfl, h1, rfl, rfl, rfl⟩ | ⟨rfl, hone, rfl, rfl, y, rfl, hy⟩ | ⟨rfl, htwo, rfl, rfl, y, z, rfl, hy, hz⟩
  · simp only [tkE, if_true]; exact ⟨_, _, rfl, .inl ⟨_, rfl⟩⟩
  · simp [tkE]; exact .inr (.inl ⟨_, rfl⟩)
  · simp [tkE]
    simp only [oneOp, decide_eq_true_eq] at hone
    refine .inr (.inr ⟨_, rfl, ?_⟩)
    rcases hone with rfl | rfl <;> decide
  · rw [tkE]; simp only [show ¬((4 : Int) = 1) by decide, show ¬((4 : Int) = 2) by decide, show ¬((4 : Int) = 3) by decide, if_false]
    have hlt : SizeOf.sizeOf y < n := by rw [← hn]; exact memE_lt (e := .mk 4 op 0 [] [y, z] a) (.head _)
    exact parT_head (ih _ hlt y rfl _ hy) _
theorem tkE_noword (x : Ex) (d : Nat) (hr : rightE x d = true) (s : List UInt8) (hs : 1 < s.length) (Z : List Tok) : isT s (tkE x ++ Z) = false := by
  obtain ⟨t, r, h, h1⟩ := tkE_head _ x rfl d hr
  rw [h, List.cons_append]
  rcases h1 with ⟨n, rfl⟩ | ⟨y, rfl⟩ | ⟨y, rfl, hy⟩
  · exact isT_nu _ _ _
  · exact isT_nm _ _ _
  · rw [isT_sg, decide_eq_false_iff_not]; rintro rfl; omega
theorem formT_nm (x s : List UInt8) : formT (nmT x) s = false := by simp [formT, nmT]
section
variable {e : Nat}
theorem want_sg (s : List UInt8) (Z : List Tok) : want e s (sgT s :: Z) = .ok Z := by rw [want_pos (by simp [isT_sg])]; rfl
theorem name_nm (s : List UInt8) (Z : List Tok) : nameP e (nmT s :: Z) = .ok (nmT s, Z) := by simp [nameP, here, nmT]
theorem read_x {l : List Ex} (hr : rightX true l = true) {Z : List Tok} (hZ : opT (here Z) = none) : ∃ x, l = [x] ∧ exprP e 64 (tkX l ++ Z) = .ok (zE x, Z) := by
  rcases rightX_iff.1 hr with ⟨_, x, rfl, hx⟩ | ⟨h, _⟩
  · exact ⟨x, rfl, tkE_expr hx hZ⟩
  · cases h
theorem op_none : ∀ s, s = [59] ∨ s = [41] ∨ s = [44] → ∀ Z, opT (here (sgT s :: Z)) = none := by
  rintro s (rfl | rfl | rfl) Z
  · show opT (sgT [59]) = none; decide
  · show opT (sgT [41]) = none; decide
  · show opT (sgT [44]) = none; decide
theorem cond_read {l : List Ex} (hr : rightX true l = true) (Z : List Tok) : ∃ x, l = [x] ∧ condP e (sgT [40] :: (tkX l ++ (sgT [41] :: Z))) = .ok (zE x, Z) := by
  obtain ⟨x, hx, h1⟩ := read_x (e := e) hr (Z := sgT [41] :: Z) (op_none _ (.inr (.inl rfl)) _)
  refine ⟨x, hx, ?_⟩
  simp only [condP, want_sg, h1]
theorem semi_read {l : List Ex} (hr : rightX true l = true) (Z : List Tok) : ∃ x, l = [x] ∧ exprSemi e (tkX l ++ (sgT [59] :: Z)) = .ok (zE x, Z) := by
  obtain ⟨x, hx, h1⟩ := read_x (e := e) hr (Z := sgT [59] :: Z) (op_none _ (.inl rfl) _)
  refine ⟨x, hx, ?_⟩
  simp only [exprSemi, want_sg, h1]
theorem swap_read {l : List Ex} {o : List UInt8} (hr : rightX true l = true) (Z : List Tok) : ∃ x, l = [x] ∧ swapP e (sgT [40] :: nmT o :: sgT [44] :: (tkX l ++ (sgT [41] :: sgT [59] :: Z))) = .ok ((o, zE x), Z) := by
  obtain ⟨x, hx, h1⟩ := read_x (e := e) hr (Z := sgT [41] :: sgT [59] :: Z) (op_none _ (.inr (.inl rfl)) _)
  refine ⟨x, hx, ?_⟩
  simp only [swapP, want_sg, name_nm, h1] <;> rfl
theorem atT_head (t : Tok) (l : List Tok) : atT e (t :: l) = t.at_ := rfl
/-- a block's reader, of a block that lies not too deep -/
theorem blk_read {m : Nat} {l : List Sm} (h : ∀ Z n, (tkSs l ++ (sgT [125] :: Z)).length < n → restW (stmtP e m) n (tkSs l ++ (sgT [125] :: Z)) = .ok (zSs l, Z)) (Z : List Tok) :
    (match want e [123] (sgT [123] :: (tkSs l ++ (sgT [125] :: Z))) with | .error f => (.error f : PR (List Sm)) | .ok r1 => restW (stmtP e m) (r1.length + 1) r1) = .ok (zSs l, Z) := by
  rw [want_sg]; exact h Z _ (Nat.lt_succ_self _)
theorem form_no {t : Tok} {l : List Tok} {s : List UInt8} (h : formT t s = false) : ¬ formT (here (t :: l)) s = true := by rw [here_cons, h]; simp
theorem form_yes {t : Tok} {l : List Tok} {s : List UInt8} (h : formT t s = true) : formT (here (t :: l)) s = true := h
mutual
theorem read_s : ∀ (s : Sm) (d : Nat), rightS s d = true → ∀ Z : List Tok, isT wElse Z = false → stmtP e (64 - d) (tkS s ++ Z) = .ok (zS s, Z)
  | .mk k nm other es body els a, d, hr, Z, hZ => by
    rw [rightS] at hr
    simp only [Bool.and_eq_true, decide_eq_true_eq] at hr
    obtain ⟨⟨⟨⟨⟨⟨⟨⟨h1, h2⟩, h3⟩, h4⟩, h5⟩, h6⟩, h7⟩, h8⟩, h9⟩ := hr
    have hbody := fun Z n => read_ss body (d + 1) h8 Z n
    have hels := fun Z n => read_ss els (d + 1) h9 Z n
    have hat : ∀ (t : Tok) (l : List Tok), t.at_ = 0 → ((atT e (t :: l) : Nat) : Int) = 0 := fun t l h => by rw [atT_head, h]; rfl
    -- the reader's shape, at any depth
    have hall : ∃ bk : List Tok → PR (List Sm), stmtP e (64 - d) = stmtW e bk ∧ ((hasB k = true ∨ 0 < els.length) → bk = fun r => match want e [123] r with | .error f => .error f | .ok r1 => restW (stmtP e (64 - (d + 1))) (r1.length + 1) r1) := by
      cases hm : 64 - d with
      | zero =>
        refine ⟨_, by funext ts; rw [stmtP], fun h => ?_⟩
        simp only [Bool.or_eq_true, decide_eq_true_eq, Bool.not_eq_true', Bool.or_eq_false_iff, decide_eq_false_iff_not] at h7
        rcases h7 with h7 | h7
        · rcases h with h | h
          · rw [h7.1] at h; cases h
          · exact absurd h h7.2
        · omega
      | succ m =>
        refine ⟨_, by funext ts; rw [stmtP], fun h => ?_⟩
        have : 64 - (d + 1) = m := by omega
        rw [this]
        funext r
        cases want e [123] r <;> rfl
    obtain ⟨bk, hst, hbk⟩ := hall
    rw [hst]
    have hk : k = 1 ∨ k = 2 ∨ k = 3 ∨ k = 4 ∨ k = 5 ∨ k = 6 ∨ k = 7 := by omega
    rcases hk with rfl | rfl | rfl | rfl | rfl | rfl | rfl
    · have hE : rightX true es = true := h4
      obtain ⟨x, rfl, hx⟩ := semi_read (e := e) hE Z
      have hb0 : body = [] := by simpa [hasB] using h5
      have hl0 : els = [] := by simpa using h6
      have ho : other = [] := by simpa [nmOk] using h3
      subst hb0 hl0 ho
      have e1 : tkS (.mk 1 nm [] [x] [] [] a) ++ Z = nmT nm :: sgT [61] :: (tkX [x] ++ (sgT [59] :: Z)) := by simp [tkS]
      rw [e1]
      simp only [stmtW, here_cons, formT_nm, Bool.false_eq_true, if_false, assignP, name_nm, want_sg, hx]
      have hsw : isT wSwap (tkX [x] ++ (sgT [59] :: Z)) = false := by
        have hxr : rightE x 0 = true := by rcases rightX_iff.1 hE with ⟨_, y, hy, h⟩ | ⟨h, _⟩; cases hy; exact h; cases h
        exact tkE_noword x 0 hxr wSwap (by decide) _
      rw [if_neg (by rw [hsw]; simp)]
      simp [zS, trS, trEs, trSs, idS, hat, nmT, atT]
    · have hE : rightX true es = true := h4
      obtain ⟨x, rfl, hx⟩ := swap_read (e := e) (o := other) hE Z
      have hb0 : body = [] := by simpa [hasB] using h5
      have hl0 : els = [] := by simpa using h6
      subst hb0 hl0
      have e1 : tkS (.mk 2 nm other [x] [] [] a) ++ Z = nmT nm :: sgT [61] :: wdT wSwap :: sgT [40] :: nmT other :: sgT [44] :: (tkX [x] ++ (sgT [41] :: sgT [59] :: Z)) := by simp [tkS]
      rw [e1]
      simp only [stmtW, here_cons, formT_nm, Bool.false_eq_true, if_false, assignP, name_nm, want_sg]
      rw [if_pos (by rw [isT_wd]; simp), List.tail_cons, hx]
      simp [zS, trS, trEs, trSs, idS, hat, nmT, atT]
    · have hE : rightX true es = true := h4
      have hB := hbk (.inl (by decide))
      have hn : nm = [] := by simpa [nmOk, hasN] using h2
      have ho : other = [] := by simpa [nmOk] using h3
      subst hn ho
      by_cases hl : 0 < els.length
      · obtain ⟨x, rfl, hx⟩ := cond_read (e := e) hE (sgT [123] :: (tkSs body ++ (sgT [125] :: wdT wElse :: sgT [123] :: (tkSs els ++ (sgT [125] :: Z)))))
        have e1 : tkS (.mk 3 [] [] [x] body els a) ++ Z = wdT wIf :: sgT [40] :: (tkX [x] ++ (sgT [41] :: sgT [123] :: (tkSs body ++ (sgT [125] :: wdT wElse :: sgT [123] :: (tkSs els ++ (sgT [125] :: Z)))))) := by simp [tkS, hl]
        rw [e1]
        unfold stmtW
        rw [if_pos (form_yes (t := wdT wIf) (s := wIf) (by decide)), List.tail_cons, hx]
        simp only [hB]
        rw [blk_read hbody (wdT wElse :: sgT [123] :: (tkSs els ++ (sgT [125] :: Z)))]
        simp only
        rw [if_pos (show isT wElse (wdT wElse :: sgT [123] :: (tkSs els ++ (sgT [125] :: Z))) = true by rw [isT_wd]; simp), List.tail_cons, blk_read hels Z]
        simp [zS, trS, trEs, idS, wdT, atT]
      · have hl0 : els = [] := by simpa using hl
        subst hl0
        obtain ⟨x, rfl, hx⟩ := cond_read (e := e) hE (sgT [123] :: (tkSs body ++ (sgT [125] :: Z)))
        have e1 : tkS (.mk 3 [] [] [x] body [] a) ++ Z = wdT wIf :: sgT [40] :: (tkX [x] ++ (sgT [41] :: sgT [123] :: (tkSs body ++ (sgT [125] :: Z)))) := by simp [tkS]
        rw [e1]
        unfold stmtW
        rw [if_pos (form_yes (t := wdT wIf) (s := wIf) (by decide)), List.tail_cons, hx]
        simp only [hB]
        rw [blk_read hbody Z]
        simp only
        rw [if_neg (by rw [hZ]; simp)]
        simp [zS, trS, trEs, trSs, idS, wdT, atT]
    · have hE : rightX true es = true := h4
      have hB := hbk (.inl (by decide))
      have hn : nm = [] := by simpa [nmOk, hasN] using h2
      have ho : other = [] := by simpa [nmOk] using h3
      have hl0 : els = [] := by simpa using h6
      subst hn ho hl0
      obtain ⟨x, rfl, hx⟩ := cond_read (e := e) hE (sgT [123] :: (tkSs body ++ (sgT [125] :: Z)))
      have e1 : tkS (.mk 4 [] [] [x] body [] a) ++ Z = wdT wWhile :: sgT [40] :: (tkX [x] ++ (sgT [41] :: sgT [123] :: (tkSs body ++ (sgT [125] :: Z)))) := by simp [tkS]
      rw [e1]
      unfold stmtW
      rw [if_neg (form_no (t := wdT wWhile) (s := wIf) (by decide)), if_pos (form_yes (t := wdT wWhile) (s := wWhile) (by decide)), List.tail_cons, hx]
      simp only [hB]
      rw [blk_read hbody Z]
      simp [zS, trS, trEs, trSs, idS, wdT, atT]
    · have hB := hbk (.inl (by decide))
      have he : es = [] := by simpa [rightX, hasE] using h4
      have ho : other = [] := by simpa [nmOk] using h3
      have hl0 : els = [] := by simpa using h6
      subst he ho hl0
      have e1 : tkS (.mk 5 nm [] [] body [] a) ++ Z = wdT wLock :: nmT nm :: sgT [123] :: (tkSs body ++ (sgT [125] :: Z)) := by simp [tkS]
      rw [e1]
      unfold stmtW
      rw [if_neg (form_no (t := wdT wLock) (s := wIf) (by decide)), if_neg (form_no (t := wdT wLock) (s := wWhile) (by decide)), if_pos (form_yes (t := wdT wLock) (s := wLock) (by decide)), List.tail_cons, name_nm]
      simp only [hB]
      rw [blk_read hbody Z]
      simp [zS, trS, trEs, trSs, idS, wdT, nmT, atT]
    · have hE : rightX true es = true := h4
      obtain ⟨x, rfl, hx⟩ := semi_read (e := e) hE Z
      have hb0 : body = [] := by simpa [hasB] using h5
      have hl0 : els = [] := by simpa using h6
      have hn : nm = [] := by simpa [nmOk, hasN] using h2
      have ho : other = [] := by simpa [nmOk] using h3
      subst hb0 hl0 hn ho
      have e1 : tkS (.mk 6 [] [] [x] [] [] a) ++ Z = wdT wPrint :: (tkX [x] ++ (sgT [59] :: Z)) := by simp [tkS]
      rw [e1]
      unfold stmtW
      rw [if_neg (form_no (t := wdT wPrint) (s := wIf) (by decide)), if_neg (form_no (t := wdT wPrint) (s := wWhile) (by decide)), if_neg (form_no (t := wdT wPrint) (s := wLock) (by decide)), if_pos (form_yes (t := wdT wPrint) (s := wPrint) (by decide)), List.tail_cons, hx]
      simp [zS, trS, trEs, trSs, idS, wdT, atT]
    · have he : es = [] := by simpa [rightX, hasE] using h4
      have hb0 : body = [] := by simpa [hasB] using h5
      have hl0 : els = [] := by simpa using h6
      have hn : nm = [] := by simpa [nmOk, hasN] using h2
      have ho : other = [] := by simpa [nmOk] using h3
      subst he hb0 hl0 hn ho
      have e1 : tkS (.mk 7 [] [] [] [] [] a) ++ Z = wdT wSkip :: sgT [59] :: Z := by simp [tkS]
      rw [e1]
      unfold stmtW
      rw [if_neg (form_no (t := wdT wSkip) (s := wIf) (by decide)), if_neg (form_no (t := wdT wSkip) (s := wWhile) (by decide)), if_neg (form_no (t := wdT wSkip) (s := wLock) (by decide)), if_neg (form_no (t := wdT wSkip) (s := wPrint) (by decide)), if_pos (form_yes (t := wdT wSkip) (s := wSkip) (by decide)), List.tail_cons, want_sg]
      simp [zS, trS, trEs, trSs, idS, wdT, atT]
termination_by structural s => s
theorem read_ss : ∀ (l : List Sm) (d : Nat), rightSs l d = true → ∀ (Z : List Tok) (n : Nat), (tkSs l ++ (sgT [125] :: Z)).length < n → restW (stmtP e (64 - d)) n (tkSs l ++ (sgT [125] :: Z)) = .ok (zSs l, Z)
  | [], d, hr, Z, n, hn => by
    obtain ⟨n', rfl⟩ : ∃ n', n = n' + 1 := ⟨n - 1, by omega⟩
    show restW (stmtP e (64 - d)) (n' + 1) (sgT [125] :: Z) = _
    simp only [restW]
    rw [if_pos (by simp [isT_sg])]; rfl
  | s :: r, d, hr, Z, n, hn => by
    obtain ⟨n', rfl⟩ : ∃ n', n = n' + 1 := ⟨n - 1, by omega⟩
    rw [rightSs, Bool.and_eq_true] at hr
    have e1 : tkSs (s :: r) ++ (sgT [125] :: Z) = tkS s ++ (tkSs r ++ (sgT [125] :: Z)) := by rw [tkSs, List.append_assoc]
    obtain ⟨h1, h2, h3⟩ := tkS_not s (tkSs r ++ (sgT [125] :: Z))
    rw [e1] at hn ⊢
    simp only [restW]
    rw [if_neg (by rw [h2]; simp), read_s s d hr.1 _ (tkSs_not r (by simp [isT_sg]; decide))]
    simp only
    rw [read_ss r d hr.2 Z n' (by rw [List.length_append] at hn; omega)]
    rfl
termination_by structural l => l
end
end
end ParS


/- A program's text that is printed is cut into its tokens, and parsed as it was, but for places. -/
namespace ParS
open Sx LexS

theorem c_eq (Z : List UInt8) : Lx [32, 61, 32] [sgT [61]] Z := (Lx.sp _).app ((lx_sg1 (c := 61) (Z := [32] ++ Z) (by decide) (fun d r e => by cases e; decide)).app (Lx.sp Z))
theorem c_semi (Z : List UInt8) : Lx [59, 10] [sgT [59]] Z := (lx_sg (c := 59) _ (by decide) (by decide)).app (Lx.lf Z)
theorem c_open (Z : List UInt8) : Lx [32, 123, 10] [sgT [123]] Z := (Lx.sp _).app ((lx_sg (c := 123) _ (by decide) (by decide)).app (Lx.lf Z))
theorem c_close (Z : List UInt8) : Lx [41, 32, 123, 10] [sgT [41], sgT [123]] Z := (lx_sg (c := 41) _ (by decide) (by decide)).app (c_open Z)
theorem c_end (Z : List UInt8) : Lx [125, 10] [sgT [125]] Z := (lx_sg (c := 125) _ (by decide) (by decide)).app (Lx.lf Z)
theorem c_word {w : List UInt8} (h : isWord w = true) (Z : List UInt8) : Lx (w ++ [32]) [wdT w] Z := (lx_word h (NI.cons (by decide) _)).app (Lx.sp Z)
theorem c_else (Z : List UInt8) : Lx [125, 32, 101, 108, 115, 101, 32, 123, 10] [sgT [125], wdT wElse, sgT [123]] Z :=
  (lx_sg (c := 125) _ (by decide) (by decide)).app ((Lx.sp _).app ((lx_word (t := wElse) (by decide) (NI.cons (by decide) _)).app (c_open Z)))
theorem c_if (Z : List UInt8) : Lx [105, 102, 32, 40] [wdT wIf, sgT [40]] Z := (lx_word (t := wIf) (by decide) (NI.cons (by decide) _)).app ((Lx.sp _).app (lx_sg (c := 40) Z (by decide) (by decide)))
theorem c_while (Z : List UInt8) : Lx [119, 104, 105, 108, 101, 32, 40] [wdT wWhile, sgT [40]] Z := (lx_word (t := wWhile) (by decide) (NI.cons (by decide) _)).app ((Lx.sp _).app (lx_sg (c := 40) Z (by decide) (by decide)))
theorem c_swap (Z : List UInt8) : Lx [32, 61, 32, 115, 119, 97, 112, 40] [sgT [61], wdT wSwap, sgT [40]] Z := (c_eq _).app ((lx_word (t := wSwap) (by decide) (NI.cons (by decide) _)).app (lx_sg (c := 40) Z (by decide) (by decide)))
theorem c_comma (Z : List UInt8) : Lx [44, 32] [sgT [44]] Z := (lx_sg (c := 44) _ (by decide) (by decide)).app (Lx.sp Z)
theorem c_swe (Z : List UInt8) : Lx [41, 59, 10] [sgT [41], sgT [59]] Z := (lx_sg (c := 41) _ (by decide) (by decide)).app (c_semi Z)
theorem c_skip (Z : List UInt8) : Lx [115, 107, 105, 112, 59, 10] [wdT wSkip, sgT [59]] Z := (lx_word (t := wSkip) (by decide) (NI.cons (by decide) _)).app (c_semi Z)
theorem lx_x {l : List Ex} (hr : rightX true l = true) (hok : OkEs l) {Z : List UInt8} (hZ : NI Z) : Lx (txX l) (tkX l) Z := by
  rcases rightX_iff.1 hr with ⟨_, x, rfl, hx⟩ | ⟨h, _⟩
  · exact txtE_lx _ x rfl 0 hx (hok.2 0 x rfl) Z hZ
  · cases h
mutual
theorem txtS_lx : ∀ (s : Sm) (d : Nat), rightS s d = true → OkS s → ∀ Z, Lx (txtS s d) (tkS s) Z
  | .mk k nm other es body els a, d, hr, hok, Z => by
    rw [rightS] at hr
    simp only [Bool.and_eq_true, decide_eq_true_eq] at hr
    obtain ⟨⟨⟨⟨⟨⟨⟨⟨h1, h2⟩, h3⟩, h4⟩, h5⟩, h6⟩, h7⟩, h8⟩, h9⟩ := hr
    have hE := hok.e
    have hB := fun Z => txtSs_lx body (d + 1) h8 hok.body Z
    have hL := fun Z => txtSs_lx els (d + 1) h9 hok.els Z
    simp only [Sm.e] at hE
    have hk : k = 1 ∨ k = 2 ∨ k = 3 ∨ k = 4 ∨ k = 5 ∨ k = 6 ∨ k = 7 := by omega
    rcases hk with rfl | rfl | rfl | rfl | rfl | rfl | rfl
    · have hX : rightX true es = true := h4
      have hn : isName nm = true := h2
      have := (Lx.mar d _).app ((lx_name hn (NI.cons (by decide) _)).app ((c_eq _).app ((lx_x hX hE (NI.cons (by decide) _)).app (c_semi Z))))
      exact this.eq (by simp [txtS]) (by simp [tkS])
    · have hX : rightX true es = true := h4
      have hn : isName nm = true := h2
      have ho : isName other = true := h3
      have := (Lx.mar d _).app ((lx_name hn (NI.cons (by decide) _)).app ((c_swap _).app ((lx_name ho (NI.cons (by decide) _)).app ((c_comma _).app ((lx_x hX hE (NI.cons (by decide) _)).app (c_swe Z))))))
      exact this.eq (by simp [txtS]) (by simp [tkS])
    · have hX : rightX true es = true := h4
      by_cases hl : 0 < els.length
      · have := (Lx.mar d _).app ((c_if _).app ((lx_x hX hE (NI.cons (by decide) _)).app ((c_close _).app ((hB _).app ((Lx.mar d _).app ((c_else _).app ((hL _).app ((Lx.mar d _).app (c_end Z)))))))))
        exact this.eq (by simp [txtS, hl]) (by simp [tkS, hl])
      · have := (Lx.mar d _).app ((c_if _).app ((lx_x hX hE (NI.cons (by decide) _)).app ((c_close _).app ((hB _).app ((Lx.mar d _).app (c_end Z))))))
        exact this.eq (by simp [txtS, hl]) (by simp [tkS, hl])
    · have hX : rightX true es = true := h4
      have hl0 : els = [] := by simpa using h6
      subst hl0
      have := (Lx.mar d _).app ((c_while _).app ((lx_x hX hE (NI.cons (by decide) _)).app ((c_close _).app ((hB _).app ((Lx.mar d _).app (c_end Z))))))
      exact this.eq (by simp [txtS]) (by simp [tkS])
    · have hn : isName nm = true := h2
      have := (Lx.mar d _).app ((c_word (w := wLock) (by decide) _).app ((lx_name hn (NI.cons (by decide) _)).app ((c_open _).app ((hB _).app ((Lx.mar d _).app (c_end Z))))))
      exact this.eq (by simp [txtS, wLock]) (by simp [tkS])
    · have hX : rightX true es = true := h4
      have := (Lx.mar d _).app ((c_word (w := wPrint) (by decide) _).app ((lx_x hX hE (NI.cons (by decide) _)).app (c_semi Z)))
      exact this.eq (by simp [txtS, wPrint]) (by simp [tkS])
    · have := (Lx.mar d _).app (c_skip Z)
      exact this.eq (by simp [txtS]) (by simp [tkS])
termination_by structural s => s
theorem txtSs_lx : ∀ (l : List Sm) (d : Nat), rightSs l d = true → OkSs l → ∀ Z, Lx (txtSs l d) (tkSs l) Z
  | [], d, hr, hok, Z => by rw [txtSs, tkSs]; exact Lx.nil Z
  | s :: r, d, hr, hok, Z => by
    rw [rightSs, Bool.and_eq_true] at hr
    rw [txtSs, tkSs]
    exact (txtS_lx s d hr.1 (hok.2 0 s rfl) _).app (txtSs_lx r d hr.2 ⟨by have := hok.1; simp at this; omega, fun j x hj => hok.2 (j + 1) x (by simpa using hj)⟩ Z)
termination_by structural l => l
end

/-! ### declarations, threads, programs -/
def tkD (x : Dc) : List Tok := nmT x.nm :: (if x.wd = 0 then [] else sgT [61] :: (if x.wd < 0 then [sgT [45], nuT x.wd.natAbs] else [nuT x.wd.natAbs]))
def commaT : List (List Tok) → List Tok
  | [] => []
  | [x] => x
  | x :: y :: r => x ++ sgT [44] :: commaT (y :: r)
def tkDs (word : List UInt8) (l : List Dc) : List Tok := if l.length = 0 then [] else wdT word :: (commaT (l.map tkD) ++ [sgT [59]])
def tkT (t : Th) : List Tok := wdT wThread :: nmT t.nm :: sgT [123] :: (tkDs wLocal t.locals ++ (tkSs t.body ++ [sgT [125]]))
def tkP (p : Pg) : List Tok := tkDs wShared p.shared ++ (tkDs wLock p.locks ++ (p.threads.map tkT).flatten)
theorem dcT_lx {b : Bool} {x : Dc} (h : dcOk b x = true) (hok : i64 x.wd) {Z : List UInt8} (hZ : NI Z) : Lx (dcT x) (tkD x) Z := by
  simp only [dcOk, Bool.and_eq_true] at h
  obtain ⟨h1, h2⟩ := h
  have hne : x.wd ≠ -9223372036854775808 := by
    cases b
    · simp at h2; omega
    · simpa using h2
  unfold dcT tkD
  by_cases h0 : x.wd = 0
  · simp only [h0, if_true, List.append_nil]; exact lx_name h1 hZ
  · simp only [h0, if_false]
    have hle : x.wd.natAbs ≤ 9223372036854775807 := by have := hok.1; have := hok.2; omega
    unfold shw
    by_cases hn : x.wd < 0
    · simp only [hn, if_true]
      have := (lx_name h1 (NI.cons (by decide) _)).app ((c_eq _).app ((lx_sg (c := 45) _ (by decide) (by decide)).app (lx_num hle hZ)))
      exact this.eq (by simp) (by simp)
    · simp only [hn, if_false]
      have := (lx_name h1 (NI.cons (by decide) _)).app ((c_eq _).app (lx_num hle hZ))
      exact this.eq (by simp) (by simp)
theorem joinC_lx {b : Bool} : ∀ (l : List Dc), l.all (dcOk b) = true → (∀ x ∈ l, i64 x.wd) → ∀ Z, NI Z → Lx (joinC (l.map dcT)) (commaT (l.map tkD)) Z
  | [], _, _, Z, hZ => Lx.nil Z
  | [x], h, hok, Z, hZ => dcT_lx (by simpa using h) (hok x (.head _)) hZ
  | x :: y :: r, h, hok, Z, hZ => by
    have h' := h
    rw [List.all_cons, Bool.and_eq_true] at h
    have := (dcT_lx h.1 (hok x (.head _)) (NI.cons (by decide) _)).app ((c_comma _).app (joinC_lx (y :: r) h.2 (fun z hz => hok z (.tail _ hz)) Z hZ))
    exact this.eq (by simp [joinC]) (by simp [commaT])
theorem dcs_i64 {l : List Dc} (h : OkD l) : ∀ x ∈ l, i64 x.wd := fun x hx => by
  obtain ⟨j, hj⟩ := List.getElem?_of_mem hx
  exact (h.2 j x hj).1
theorem dcsT_lx {b : Bool} {word : List UInt8} (hw : isWord word = true) (d : Nat) {l : List Dc} (h : l.all (dcOk b) = true) (hok : OkD l) (Z : List UInt8) : Lx (dcsT word d l) (tkDs word l) Z := by
  unfold dcsT tkDs
  split
  · exact Lx.nil Z
  · have := (Lx.mar d _).app ((c_word hw _).app ((joinC_lx l h (dcs_i64 hok) _ (NI.cons (by decide) _)).app (c_semi Z)))
    exact this.eq (by simp) (by simp)
theorem thT_lx {t : Th} (h : thOk t = true) (hok : OkD t.locals ∧ OkSs t.body) (Z : List UInt8) : Lx (thT t) (tkT t) Z := by
  simp only [thOk, Bool.and_eq_true] at h
  have := (c_word (w := wThread) (by decide) _).app ((lx_name h.1.1 (NI.cons (by decide) _)).app ((c_open _).app ((dcsT_lx (word := wLocal) (by decide) 1 h.1.2 hok.1 _).app ((txtSs_lx t.body 1 h.2 hok.2 _).app (c_end Z)))))
  exact this.eq (by simp [thT, wThread, wLocal]) (by simp [tkT])
theorem thsT_lx : ∀ (l : List Th), l.all thOk = true → (∀ t ∈ l, OkD t.locals ∧ OkSs t.body) → ∀ Z, Lx ((l.map thT).flatten) ((l.map tkT).flatten) Z
  | [], _, _, Z => Lx.nil Z
  | t :: r, h, hok, Z => by
    rw [List.all_cons, Bool.and_eq_true] at h
    simp only [List.map_cons, List.flatten_cons]
    exact (thT_lx h.1 (hok t (.head _)) _).app (thsT_lx r h.2 (fun x hx => hok x (.tail _ hx)) Z)
theorem pgT_lx {p : Pg} (h : pgOk p = true) (hok : OkP p) (Z : List UInt8) : Lx (pgT p) (tkP p) Z := by
  simp only [pgOk, Bool.and_eq_true] at h
  have := (dcsT_lx (word := wShared) (by decide) 0 h.1.1 hok.1 _).app ((dcsT_lx (word := wLock) (by decide) 0 h.1.2 hok.2.1 _).app (thsT_lx p.threads h.2 (fun t ht => by
    obtain ⟨j, hj⟩ := List.getElem?_of_mem ht
    exact ⟨(hok.2.2.2 j t hj).1, (hok.2.2.2 j t hj).2.1⟩) Z))
  exact this.eq (by simp [pgT, wShared, wLock]) (by simp [tkP])
/-- the lexer's answer -/
theorem lx_front {l : List UInt8} {T : List Tok} (h : Lx l T []) : ∃ T', STk T' T ∧ front l = (T', none) := by
  obtain ⟨T', h1, h2⟩ := h 0
  refine ⟨T', h1, ?_⟩
  rw [front_eq]
  rw [List.append_nil] at h2
  rw [h2, scanA_end (by simp)]
  simp

section
variable {e : Nat}
theorem decl_read {x : Dc} (h : dcOk false x = true) {Z : List Tok} : declP e (tkD x ++ Z) = .ok (zD x, Z) := by
  have h0 : x.wd = 0 := by simp only [dcOk, Bool.and_eq_true] at h; simpa using h.2
  unfold declP tkD
  rw [if_pos h0]
  simp only [List.cons_append, List.nil_append, name_nm]
  simp [zD, trD, idS, nmT, h0]
theorem word_nu (m : Bool) (n : Nat) (Z : List Tok) : wordP e m (nuT n :: Z) = .ok ((if m = true then -(n : Int) else (n : Int)), Z) := by simp [wordP, here, nuT]
theorem init_read {x : Dc} (h : dcOk true x = true) {Z : List Tok} (hZ : isT [61] Z = false) : initP e (tkD x ++ Z) = .ok (zD x, Z) := by
  unfold initP tkD
  by_cases h0 : x.wd = 0
  · simp only [h0, if_true, List.cons_append, List.nil_append, name_nm, hZ, Bool.false_eq_true, if_false]
    simp [zD, trD, idS, nmT, h0]
  · by_cases hn : x.wd < 0
    · simp only [h0, hn, if_true, if_false, List.cons_append, List.nil_append, name_nm]
      rw [if_pos (by simp [isT_sg])]
      simp only [List.tail_cons]
      have e1 : isT [45] (sgT [45] :: nuT x.wd.natAbs :: Z) = true := by simp [isT_sg]
      have e2 : -((x.wd.natAbs : Nat) : Int) = x.wd := by omega
      simp only [e1, ↓reduceIte, List.tail_cons, word_nu, e2]
      simp [zD, trD, idS, nmT]
    · simp only [h0, hn, if_false, List.cons_append, List.nil_append, name_nm]
      rw [if_pos (by simp [isT_sg])]
      simp only [List.tail_cons]
      have e1 : isT [45] (nuT x.wd.natAbs :: Z) = false := isT_nu _ _ _
      have e2 : ((x.wd.natAbs : Nat) : Int) = x.wd := by omega
      simp only [e1, Bool.false_eq_true, ↓reduceIte, word_nu, e2]
      simp [zD, trD, idS, nmT]
theorem list_read {one : List Tok → PR Dc} {ok : Dc → Bool} (ho : ∀ x, ok x = true → ∀ s Z, s = [44] ∨ s = [59] → one (tkD x ++ (sgT s :: Z)) = .ok (zD x, sgT s :: Z)) :
    ∀ (l : List Dc) (n : Nat), l ≠ [] → l.all ok = true → ∀ Z, l.length ≤ n → listP e one n (commaT (l.map tkD) ++ (sgT [59] :: Z)) = .ok (l.map zD, Z)
  | [], n, h, _, Z, _ => absurd rfl h
  | [x], n, _, h, Z, hn => by
    obtain ⟨n', rfl⟩ : ∃ n', n = n' + 1 := ⟨n - 1, by simp at hn; omega⟩
    simp only [List.map_cons, List.map_nil, commaT, listP, ho x (by simpa using h) [59] Z (.inr rfl)]
    rw [if_neg (by rw [isT_sg]; decide), want_sg]
  | x :: y :: r, n, _, h, Z, hn => by
    obtain ⟨n', rfl⟩ : ∃ n', n = n' + 1 := ⟨n - 1, by simp at hn; omega⟩
    rw [List.all_cons, Bool.and_eq_true] at h
    have e1 : commaT ((x :: y :: r).map tkD) ++ (sgT [59] :: Z) = tkD x ++ (sgT [44] :: (commaT ((y :: r).map tkD) ++ (sgT [59] :: Z))) := by simp [commaT]
    rw [e1]
    simp only [listP, ho x h.1 [44] _ (.inl rfl)]
    rw [if_pos (by rw [isT_sg]; decide), List.tail_cons, list_read ho (y :: r) n' (by simp) h.2 Z (by simp at hn ⊢; omega)]
    rfl
theorem decls_read (word : List UInt8) {l : List Dc} (h0 : ¬ l.length = 0) (h : l.all (dcOk false) = true) (Z : List Tok) (n : Nat) (hn : l.length ≤ n) : listP e (declP e) n (commaT (l.map tkD) ++ (sgT [59] :: Z)) = .ok (l.map zD, Z) :=
  list_read (ok := dcOk false) (fun x hx s Z hs => decl_read hx) l n (by intro e; subst e; simp at h0) h Z hn
theorem inits_read {l : List Dc} (h0 : ¬ l.length = 0) (h : l.all (dcOk true) = true) (Z : List Tok) (n : Nat) (hn : l.length ≤ n) : listP e (initP e) n (commaT (l.map tkD) ++ (sgT [59] :: Z)) = .ok (l.map zD, Z) :=
  list_read (ok := dcOk true) (fun x hx s Z hs => init_read hx (by rcases hs with rfl | rfl <;> (rw [isT_sg]; decide))) l n (by intro e; subst e; simp at h0) h Z hn
theorem commaT_len : ∀ (l : List Dc), l.length ≤ (commaT (l.map tkD)).length
  | [] => Nat.le_refl _
  | [x] => by simp [commaT, tkD]
  | x :: y :: r => by
    have := commaT_len (y :: r)
    simp only [List.map_cons, List.length_cons, commaT, List.length_append, tkD] at this ⊢; omega
theorem thread_read {t : Th} (h : thOk t = true) (Z : List Tok) : threadP e (nmT t.nm :: sgT [123] :: (tkDs wLocal t.locals ++ (tkSs t.body ++ [sgT [125]])) ++ Z) = .ok (zT t, Z) := by
  simp only [thOk, Bool.and_eq_true] at h
  have hrest := read_ss (e := e) t.body 1 h.2 Z
  have e1 : nmT t.nm :: sgT [123] :: (tkDs wLocal t.locals ++ (tkSs t.body ++ [sgT [125]])) ++ Z = nmT t.nm :: sgT [123] :: (tkDs wLocal t.locals ++ (tkSs t.body ++ (sgT [125] :: Z))) := by simp
  rw [e1]
  have hnl : isT wLocal (tkSs t.body ++ (sgT [125] :: Z)) = false := by
    cases hb : t.body with
    | nil => rw [tkSs, List.nil_append, isT_sg]; decide
    | cons s r =>
      rw [tkSs, List.append_assoc]
      exact tkS_nolocal s 1 (by rw [hb, rightSs, Bool.and_eq_true] at h; exact h.2.1) _ (by decide) (.inl rfl)
  have hloc : ∀ n, (tkDs wLocal t.locals ++ (tkSs t.body ++ (sgT [125] :: Z))).length < n → localsP e n (tkDs wLocal t.locals ++ (tkSs t.body ++ (sgT [125] :: Z))) = .ok (t.locals.map zD, tkSs t.body ++ (sgT [125] :: Z)) := by
    intro n hn
    obtain ⟨n', rfl⟩ : ∃ n', n = n' + 1 := ⟨n - 1, by omega⟩
    unfold tkDs at hn ⊢
    split
    · rename_i h0
      rw [List.nil_append, localsP, if_neg (by rw [hnl]; simp), List.eq_nil_of_length_eq_zero h0]; rfl
    · rename_i h0
      rw [if_neg h0] at hn
      have e2 : wdT wLocal :: (commaT (t.locals.map tkD) ++ [sgT [59]]) ++ (tkSs t.body ++ (sgT [125] :: Z)) = wdT wLocal :: (commaT (t.locals.map tkD) ++ (sgT [59] :: (tkSs t.body ++ (sgT [125] :: Z)))) := by simp
      rw [e2] at hn ⊢
      have hcl := commaT_len t.locals
      simp only [List.length_cons, List.length_append] at hn
      rw [localsP, if_pos (by rw [isT_wd]; simp), List.tail_cons, decls_read wLocal h0 h.1.2 _ _ (by simp; omega)]
      simp only
      obtain ⟨n2, rfl⟩ : ∃ n2, n' = n2 + 1 := ⟨n' - 1, by omega⟩
      rw [localsP, if_neg (by rw [hnl]; simp)]
      simp
  unfold threadP
  simp only [name_nm, want_sg]
  rw [hloc _ (Nat.lt_succ_self _)]
  simp only [restP]
  rw [hrest _ (Nat.lt_succ_self _)]
  simp [zT, trT, idS, nmT]
theorem threads_read : ∀ (l : List Th) (n : Nat), l.all thOk = true → l.length < n → threadsP e n ((l.map tkT).flatten) = .ok (l.map zT, [])
  | [], n, _, hn => by
    obtain ⟨n', rfl⟩ : ∃ n', n = n' + 1 := ⟨n - 1, by simp at hn; omega⟩
    simp [threadsP, isT, here, tok0]
  | t :: r, n, h, hn => by
    obtain ⟨n', rfl⟩ : ∃ n', n = n' + 1 := ⟨n - 1, by simp at hn; omega⟩
    rw [List.all_cons, Bool.and_eq_true] at h
    simp only [List.map_cons, List.flatten_cons]
    rw [tkT, List.cons_append, threadsP, if_pos (by rw [isT_wd]; simp), List.tail_cons, thread_read h.1]
    simp only
    rw [threads_read r n' h.2 (by simp at hn; omega)]
theorem flat_len : ∀ (l : List Th), l.length ≤ ((l.map tkT).flatten).length
  | [] => Nat.le_refl _
  | t :: r => by
    have := flat_len r
    simp only [List.map_cons, List.flatten_cons, List.length_append, List.length_cons, tkT] at this ⊢; omega
theorem isT_threads (s : List UInt8) (hs : s ≠ wThread) (l : List Th) (hs2 : s ≠ []) : isT s ((l.map tkT).flatten) = false := by
  cases l with
  | nil => simp [isT, here, tok0]
  | cons t r => simp only [List.map_cons, List.flatten_cons, tkT, List.cons_append, isT_wd, decide_eq_false_iff_not]; exact fun h => hs h.symm
theorem prog_thr {l : List Th} (h : l.all thOk = true) (n : Nat) : progP e (n + 1) ((l.map tkT).flatten) = .ok ⟨[], [], l.map zT⟩ := by
  rw [progP, if_neg (by rw [isT_threads _ (by decide) _ (by decide)]; simp), if_neg (by rw [isT_threads _ (by decide) _ (by decide)]; simp), threads_read l _ h (by have := flat_len l; omega)]
  simp
theorem prog_lock {l : List Dc} {ts : List Th} (hl : l.all (dcOk false) = true) (h : ts.all thOk = true) (n : Nat) : progP e (n + 2) (tkDs wLock l ++ (ts.map tkT).flatten) = .ok ⟨[], l.map zD, ts.map zT⟩ := by
  unfold tkDs
  split
  · rename_i h0
    rw [List.nil_append, prog_thr h, List.eq_nil_of_length_eq_zero h0]; rfl
  · rename_i h0
    have e2 : wdT wLock :: (commaT (l.map tkD) ++ [sgT [59]]) ++ (ts.map tkT).flatten = wdT wLock :: (commaT (l.map tkD) ++ (sgT [59] :: (ts.map tkT).flatten)) := by simp
    have hcl := commaT_len l
    rw [e2, progP, if_neg (by rw [isT_wd]; decide), if_pos (by rw [isT_wd]; simp), List.tail_cons, decls_read wLock h0 hl _ _ (by simp; omega)]
    simp only
    rw [prog_thr h]
    simp
theorem prog_read {p : Pg} (h : pgOk p = true) (n : Nat) : progP e (n + 3) (tkP p) = .ok (zP p) := by
  simp only [pgOk, Bool.and_eq_true] at h
  unfold tkP
  have hz : zP p = ⟨p.shared.map zD, p.locks.map zD, p.threads.map zT⟩ := rfl
  rw [hz]
  by_cases h0 : p.shared.length = 0
  · rw [tkDs, if_pos h0, List.nil_append, prog_lock h.1.2 h.2, List.eq_nil_of_length_eq_zero h0]; rfl
  · have e1 : tkDs wShared p.shared = wdT wShared :: (commaT (p.shared.map tkD) ++ [sgT [59]]) := by rw [tkDs, if_neg h0]
    have e2 : tkDs wShared p.shared ++ (tkDs wLock p.locks ++ (p.threads.map tkT).flatten) = wdT wShared :: (commaT (p.shared.map tkD) ++ (sgT [59] :: (tkDs wLock p.locks ++ (p.threads.map tkT).flatten))) := by rw [e1]; simp
    have hcl := commaT_len p.shared
    rw [e2, progP, if_pos (by rw [isT_wd]; simp), List.tail_cons, inits_read h0 h.1.1 _ _ (by simp; omega)]
    simp only
    rw [prog_lock h.1.2 h.2]
    simp
/-- a text that was printed is parsed as the tree, but for places -/
theorem parse_printed {p : Pg} (h : pgOk p = true) (hok : OkP p) (hl : (pgT p).length ≤ 65536) : ∃ q, parseRes (pgT p) = (q, 0, 0, 0) ∧ zP q = zP p := by
  obtain ⟨T', h1, h2⟩ := lx_front (pgT_lx h hok [])
  have h3 := prog_read (e := (pgT p).length) h (T'.length - 2)
  have hst := prog_st (e := (pgT p).length) (e' := (pgT p).length) (T'.length + 1) T' (tkP p) h1
  have hx : progP (pgT p).length (T'.length + 1) (tkP p) = .ok (zP p) := by
    rcases Nat.lt_or_ge T'.length 2 with hlt | hge
    · have hlen := h1.len
      have : tkP p = [] := by
        cases hq : tkP p with
        | nil => rfl
        | cons t r =>
          exfalso
          unfold tkP tkDs at hq
          have key : 2 ≤ (tkP p).length := by
            unfold tkP tkDs
            by_cases a1 : p.shared.length = 0
            · by_cases a2 : p.locks.length = 0
              · by_cases a3 : p.threads.length = 0
                · rw [List.eq_nil_of_length_eq_zero a3] at hq; simp [a1, a2] at hq
                · cases ht : p.threads with
                  | nil => rw [ht] at a3; simp at a3
                  | cons t' r' => simp only [a1, a2, if_true, List.nil_append, List.map_cons, List.flatten_cons, tkT, List.length_append, List.length_cons]; omega
              · simp only [a1, a2, if_true, if_false, List.nil_append, List.length_append, List.length_cons]; omega
            · simp only [a1, if_false, List.length_append, List.length_cons]; omega
          omega
      rw [this] at h3 hlen ⊢
      have : T'.length = 0 := by simpa using hlen
      have h4 : zP p = ⟨[], [], []⟩ := by
        rw [this] at h3
        simp [progP, isT, here, tok0, threadsP] at h3
        exact h3.symm
      rw [this, h4]
      simp [progP, isT, here, tok0, threadsP]
    · have e1 : T'.length - 2 + 3 = T'.length + 1 := by omega
      rw [e1] at h3; exact h3
  rw [hx] at hst
  rcases hst.cases with ⟨f, g, e1, e2, hf⟩ | ⟨q, q', e1, e2, hq⟩
  · cases e2
  · cases e2
    refine ⟨q, ?_, ?_⟩
    · unfold parseRes
      rw [if_neg (by omega), h2]
      simp only [e1]
    · have := sameP_iff.1 hq
      rw [this]
      show trP idS (fun _ => 0) (trP idS (fun _ => 0) p) = _
      rw [trP_trP]
end
end ParS


/- What is parsed may be written: expressions. -/
namespace ParS
open Sx LexS

structure TkOk (t : Tok) : Prop where
  name : t.kind = 1 → isName t.text = true
  word : t.word ≤ 9223372036854775807
  at_ : t.at_ ≤ 1048576
def TsOk (ts : List Tok) : Prop := (∀ t ∈ ts, TkOk t) ∧ ts.length ≤ 1048576
theorem TsOk.tail {ts : List Tok} (h : TsOk ts) : TsOk ts.tail := ⟨fun t ht => h.1 t (List.mem_of_mem_tail ht), by rw [List.length_tail]; have := h.2; omega⟩
theorem TsOk.here {ts : List Tok} (h : TsOk ts) : TkOk (ParS.here ts) := by
  cases ts with
  | nil => exact ⟨fun h => (by cases h), by simp [ParS.here, tok0], by simp [ParS.here, tok0]⟩
  | cons x l => exact h.1 x (.head _)
theorem i64_nat {n : Nat} (h : n ≤ 9223372036854775807) : i64 (n : Int) := ⟨by omega, by omega⟩
theorem i64_neg {n : Nat} (h : n ≤ 9223372036854775807) : i64 (-(n : Int)) := ⟨by omega, by omega⟩
theorem TkOk.ati {t : Tok} (h : TkOk t) : i64 (t.at_ : Int) := i64_nat (by have := h.at_; omega)
theorem rightE_mono : ∀ (n : Nat) (x : Ex), SizeOf.sizeOf x = n → ∀ d d', rightE x d = true → d' ≤ d → rightE x d' = true := by
  intro n
  refine Nat.strongRecOn n fun n ih => ?_
  intro x hn d d' hr hd
  obtain ⟨hle, hcase⟩ := rightE_iff.1 hr
  refine rightE_iff.2 ⟨by omega, ?_⟩
  have hkid : ∀ y, y ∈ x.kids → ∀ a b, rightE y a = true → b ≤ a → rightE y b = true := fun y hy a b h1 h2 => ih _ (by have := memE_lt hy; omega) y rfl a b h1 h2
  rcases hcase with h | h | h | h
  · exact .inl h
  · exact .inr (.inl h)
  · obtain ⟨h1, h2, h3, h4, y, hy, hry⟩ := h
    refine .inr (.inr (.inl ⟨h1, h2, h3, h4, y, hy, hkid y (by rw [hy]; exact .head _) _ _ hry ?_⟩))
    split <;> omega
  · obtain ⟨h1, h2, h3, h4, y, z, hyz, hry, hrz⟩ := h
    refine .inr (.inr (.inr ⟨h1, h2, h3, h4, y, z, hyz, hkid y (by rw [hyz]; exact .head _) _ _ hry ?_, hkid z (by rw [hyz]; exact .tail _ (.head _)) _ _ hrz ?_⟩))
    · split <;> omega
    · split <;> omega
theorem right_le {x : Ex} {d d' : Nat} (h : rightE x d = true) (hd : d' ≤ d) : rightE x d' = true := rightE_mono _ x rfl d d' h hd
/-- a tree that may be a part at the depth 'd' -/
structure Prt (x : Ex) (d : Nat) : Prop where
  ok : OkE x
  r : rightE x d = true
  par : x.k = 4 → rightE x (d + 1) = true
/-- how an operand's reader answers -/
def Reads (u : List Tok → PR Ex) (d : Nat) : Prop := ∀ r x r', TsOk r → u r = .ok (x, r') → Prt x d ∧ TsOk r'
theorem findO_two {s : List UInt8} {op : Nat} (h : findO s = some op) : twoOp (op : Int) = true := by
  unfold findO at h
  have h1 := List.find?_some h
  simp only [Bool.and_eq_true] at h1
  exact h1.1
theorem opT_two {t : Tok} {op : Nat} (h : opT t = some op) : twoOp (op : Int) = true := by
  unfold opT at h; split at h
  · exact findO_two h
  · cases h
theorem okE_bin {op : Nat} {a : Nat} {x y : Ex} (hop : twoOp (op : Int) = true) (ha : i64 (a : Int)) (hx : OkE x) (hy : OkE y) : OkE (binE op a x y) := by
  simp only [twoOp, decide_eq_true_eq] at hop
  refine .mk ⟨by decide, by decide⟩ ⟨by omega, by omega⟩ ⟨by decide, by decide⟩ ha (by simp) ?_
  intro j z hz
  match j, hz with
  | 0, hz => simp at hz; subst hz; exact hx
  | 1, hz => simp at hz; subst hz; exact hy
  | j + 2, hz => simp at hz
theorem loopE_right {u : List Tok → PR Ex} {d : Nat} (hd : d ≤ 64) (hu : Reads u d) : ∀ (n : Nat) (lv : Int) (x : Ex) (r : List Tok) (z : Ex) (r' : List Tok), TsOk r → loopE u n lv x r = .ok (z, r') →
    OkE x → rightE x d = true → (x.k = 4 → rightE x (d + 1) = true ∨ lv ≤ lvlO x.op) → (x.k = 4 → rightE x (d + 1) = true ∨ ∀ o, opT (here r) = some o → lvlO (o : Int) ≤ lvlO x.op) →
    OkE z ∧ rightE z d = true ∧ (z.k = 4 → rightE z (d + 1) = true ∨ lv ≤ lvlO z.op) ∧ (∀ o, opT (here r') = some o → lvlO (o : Int) < lv) ∧ TsOk r'
  | 0, lv, x, r, z, r', _, h, _, _, _, _ => by simp [loopE] at h
  | n + 1, lv, x, r, z, r', hr, h, h1, h2, h3, h4 => by
    simp only [loopE] at h
    cases hop : opT (here r) with
    | none =>
      rw [hop] at h; cases h
      exact ⟨h1, h2, h3, fun o ho => (by rw [hop] at ho; cases ho), hr⟩
    | some op =>
      rw [hop] at h
      simp only at h
      split at h
      · rename_i hlt
        cases h
        exact ⟨h1, h2, h3, fun o ho => (by rw [hop] at ho; cases ho; exact hlt), hr⟩
      · rename_i hge
        cases hy : u r.tail with
        | error f => rw [hy] at h; cases h
        | ok p =>
          obtain ⟨y, r1⟩ := p
          rw [hy] at h
          simp only at h
          obtain ⟨py, hr1⟩ := hu _ _ _ hr.tail hy
          cases hz : loopE u n (lvlO (op : Int) + 1) y r1 with
          | error f => rw [hz] at h; cases h
          | ok q =>
            obtain ⟨z1, r2⟩ := q
            rw [hz] at h
            simp only at h
            obtain ⟨a1, a2, a3, a4, a5⟩ := loopE_right hd hu n _ _ _ _ _ hr1 hz py.ok py.r (fun k => .inl (py.par k)) (fun k => .inl (py.par k))
            have htwo := opT_two hop
            have hleft : rightE x (if inn (op : Int) x false = true then d + 1 else d) = true := by
              split
              · rename_i hin
                unfold inn at hin
                simp only [Bool.and_eq_true, decide_eq_true_eq, Bool.false_and, Bool.or_false] at hin
                rcases h4 hin.1 with k | k
                · exact k
                · have := k op hop; omega
              · exact h2
            have hright : rightE z1 (if inn (op : Int) z1 true = true then d + 1 else d) = true := by
              split
              · rename_i hin
                unfold inn at hin
                simp only [Bool.and_eq_true, decide_eq_true_eq, Bool.true_and, Bool.or_eq_true] at hin
                rcases a3 hin.1 with k | k
                · exact k
                · rcases hin.2 with k2 | k2 <;> omega
              · exact a2
            have hb : rightE (binE op (here r).at_ x z1) d = true := rightE_iff.2 ⟨hd, .inr (.inr (.inr ⟨rfl, htwo, rfl, rfl, x, z1, rfl, hleft, hright⟩))⟩
            exact loopE_right hd hu n lv _ r2 z r' a5 h (okE_bin htwo hr.here.ati h1 a1) hb (fun _ => .inr (by show lv ≤ lvlO (op : Int); omega)) (fun _ => .inr fun o ho => by have := a4 o ho; show lvlO (o : Int) ≤ lvlO (op : Int); omega)
theorem exprW_right {u : List Tok → PR Ex} {d : Nat} (hd : d ≤ 64) (hg : Goes u) (hu : Reads u d) {r r' : List Tok} {x : Ex} (hr : TsOk r) (h : exprW u r = .ok (x, r')) : OkE x ∧ rightE x d = true ∧ TsOk r' := by
  rw [← climbE_expr u hg] at h
  unfold climbE at h
  cases hx : u r with
  | error f => rw [hx] at h; cases h
  | ok p =>
    obtain ⟨y, r1⟩ := p
    rw [hx] at h
    simp only at h
    obtain ⟨py, hr1⟩ := hu _ _ _ hr hx
    obtain ⟨a1, a2, a3, a4, a5⟩ := loopE_right hd hu _ _ _ _ _ _ hr1 h py.ok py.r (fun k => .inl (py.par k)) (fun k => .inl (py.par k))
    exact ⟨a1, a2, a5⟩
theorem leaf_right (e : Nat) {d : Nat} (hd : d ≤ 64) : Reads (leafP e) d := by
  intro r x r' hr h
  unfold leafP at h
  have hh := hr.here
  split at h
  · cases h
    refine ⟨⟨.mk ⟨by decide, by decide⟩ ⟨by decide, by decide⟩ (i64_nat hh.word) hh.ati (by simp) (fun j z hz => by simp at hz), rightE_iff.2 ⟨hd, .inl ⟨rfl, by simp [Ex.wd], rfl, rfl, rfl⟩⟩, fun k => by simp [Ex.k] at k⟩, hr.tail⟩
  · split at h
    · rename_i hk
      cases h
      refine ⟨⟨.mk ⟨by decide, by decide⟩ ⟨by decide, by decide⟩ ⟨by decide, by decide⟩ hh.ati (by simp) (fun j z hz => by simp at hz), rightE_iff.2 ⟨hd, .inr (.inl ⟨rfl, hh.name hk, rfl, rfl, rfl⟩)⟩, fun k => by simp [Ex.k] at k⟩, hr.tail⟩
    · cases h
theorem unary_right (e : Nat) : ∀ (m d : Nat), d + m = 64 → Reads (unaryP e m) d
  | 0, d, hd => by
    intro r x r' hr h
    simp only [unaryP] at h
    split at h
    · cases h
    · exact leaf_right e (by omega) r x r' hr h
  | m + 1, d, hd => by
    intro r x r' hr h
    simp only [unaryP] at h
    have ih := unary_right e m (d + 1) (by omega)
    split at h
    · split at h
      · cases hx : exprW (unaryP e m) r.tail with
        | error f => rw [hx] at h; cases h
        | ok p =>
          obtain ⟨y, r1⟩ := p
          rw [hx] at h
          simp only at h
          obtain ⟨a1, a2, a3⟩ := exprW_right (by omega) (unary_goes e m) ih hr.tail hx
          cases hw : want e [41] r1 with
          | error f => rw [hw] at h; cases h
          | ok r2 =>
            rw [hw] at h
            cases h
            obtain ⟨_, rfl⟩ := want_ok hw
            exact ⟨⟨a1, right_le a2 (by omega), fun _ => a2⟩, a3.tail⟩
      · cases hx : unaryP e m r.tail with
        | error f => rw [hx] at h; cases h
        | ok p =>
          obtain ⟨y, r1⟩ := p
          rw [hx] at h
          cases h
          obtain ⟨py, hr1⟩ := ih _ _ _ hr.tail hx
          have hop : oneOp (if (here r).text = [33] then 18 else 17) = true := by split <;> decide
          refine ⟨⟨.mk ⟨by decide, by decide⟩ (by split <;> exact ⟨by decide, by decide⟩) ⟨by decide, by decide⟩ hr.here.ati (by simp) (fun j z hz => ?_), rightE_iff.2 ⟨by omega, .inr (.inr (.inl ⟨rfl, hop, rfl, rfl, y, rfl, ?_⟩))⟩, fun k => by simp [Ex.k] at k⟩, hr1⟩
          · match j, hz with
            | 0, hz => simp at hz; subst hz; exact py.ok
            | j + 1, hz => simp at hz
          · split
            · rename_i hk; exact py.par hk
            · exact py.r
    · exact leaf_right e (by omega) r x r' hr h
theorem expr_right {e : Nat} {r r' : List Tok} {x : Ex} (hr : TsOk r) (h : exprP e 64 r = .ok (x, r')) : OkE x ∧ rightE x 0 = true ∧ TsOk r' := exprW_right (by omega) (unary_goes e 64) (unary_right e 64 0 rfl) hr h
end ParS


/- What is parsed may be written: statements, programs. -/
namespace ParS
open Sx LexS

def SReads (st : List Tok → PR Sm) (d : Nat) : Prop := ∀ r s r', TsOk r → st r = .ok (s, r') → OkS s ∧ rightS s d = true ∧ TsOk r'
def BReads (bk : List Tok → PR (List Sm)) (d : Nat) : Prop := ∀ r l r', TsOk r → bk r = .ok (l, r') → OkSs l ∧ (d < 64 ∧ rightSs l (d + 1) = true) ∧ TsOk r'
section
variable {e : Nat} (he : e ≤ 1048576)
theorem want_ts {s : List UInt8} {r r' : List Tok} (hr : TsOk r) (h : want e s r = .ok r') : TsOk r' := by obtain ⟨_, rfl⟩ := want_ok h; exact hr.tail
theorem name_ts {r r' : List Tok} {t : Tok} (hr : TsOk r) (h : nameP e r = .ok (t, r')) : isName t.text = true ∧ i64 (t.at_ : Int) ∧ TsOk r' := by
  unfold nameP at h; split at h
  · rename_i hk; cases h; exact ⟨hr.here.name hk, hr.here.ati, hr.tail⟩
  · cases h
include he in
theorem atT_i64 {r : List Tok} (hr : TsOk r) : i64 (atT e r : Int) := by
  cases r with
  | nil => exact i64_nat (by show e ≤ _; omega)
  | cons t l => exact TkOk.ati (hr.1 t (.head _))
theorem cond_ts {r r' : List Tok} {x : Ex} (hr : TsOk r) (h : condP e r = .ok (x, r')) : OkE x ∧ rightE x 0 = true ∧ TsOk r' := by
  unfold condP at h
  cases h1 : want e [40] r with
  | error f => rw [h1] at h; cases h
  | ok r1 =>
    rw [h1] at h; simp only at h
    have k1 := want_ts hr h1
    cases h2 : exprP e 64 r1 with
    | error f => rw [h2] at h; cases h
    | ok p =>
      obtain ⟨y, r2⟩ := p
      rw [h2] at h; simp only at h
      obtain ⟨a1, a2, k2⟩ := expr_right k1 h2
      cases h3 : want e [41] r2 with
      | error f => rw [h3] at h; cases h
      | ok r3 => rw [h3] at h; cases h; exact ⟨a1, a2, want_ts k2 h3⟩
theorem semi_ts {r r' : List Tok} {x : Ex} (hr : TsOk r) (h : exprSemi e r = .ok (x, r')) : OkE x ∧ rightE x 0 = true ∧ TsOk r' := by
  unfold exprSemi at h
  cases h2 : exprP e 64 r with
  | error f => rw [h2] at h; cases h
  | ok p =>
    obtain ⟨y, r2⟩ := p
    rw [h2] at h; simp only at h
    obtain ⟨a1, a2, k2⟩ := expr_right hr h2
    cases h3 : want e [59] r2 with
    | error f => rw [h3] at h; cases h
    | ok r3 => rw [h3] at h; cases h; exact ⟨a1, a2, want_ts k2 h3⟩
theorem swap_ts {r r' : List Tok} {o : List UInt8} {x : Ex} (hr : TsOk r) (h : swapP e r = .ok ((o, x), r')) : isName o = true ∧ OkE x ∧ rightE x 0 = true ∧ TsOk r' := by
  unfold swapP at h
  cases h1 : want e [40] r with
  | error f => rw [h1] at h; cases h
  | ok r1 =>
    rw [h1] at h; simp only at h
    have k1 := want_ts hr h1
    cases hn : nameP e r1 with
    | error f => rw [hn] at h; cases h
    | ok p =>
      obtain ⟨t, r2⟩ := p
      rw [hn] at h; simp only at h
      obtain ⟨n1, _, k2⟩ := name_ts k1 hn
      cases h3 : want e [44] r2 with
      | error f => rw [h3] at h; cases h
      | ok r3 =>
        rw [h3] at h; simp only at h
        have k3 := want_ts k2 h3
        cases h4 : exprP e 64 r3 with
        | error f => rw [h4] at h; cases h
        | ok p =>
          obtain ⟨y, r4⟩ := p
          rw [h4] at h; simp only at h
          obtain ⟨a1, a2, k4⟩ := expr_right k3 h4
          cases h5 : want e [41] r4 with
          | error f => rw [h5] at h; cases h
          | ok r5 =>
            rw [h5] at h; simp only at h
            have k5 := want_ts k4 h5
            cases h6 : want e [59] r5 with
            | error f => rw [h6] at h; cases h
            | ok r6 => rw [h6] at h; cases h; exact ⟨n1, a1, a2, want_ts k5 h6⟩
theorem okEs_one {x : Ex} (h : OkE x) : OkEs [x] := ⟨by simp, fun j y hy => by
  match j, hy with
  | 0, hy => simp at hy; subst hy; exact h
  | j + 1, hy => simp at hy⟩
theorem okSs_nil : OkSs [] := ⟨by simp, fun j y hy => by simp at hy⟩
theorem okEs_nil : OkEs [] := ⟨by simp, fun j y hy => by simp at hy⟩
theorem okS_mk {k : Int} {nm other : List UInt8} {es : List Ex} {body els : List Sm} {a : Int} (hk : u8 k) (ha : i64 a) (h1 : OkEs es) (h2 : OkSs body) (h3 : OkSs els) : OkS (.mk k nm other es body els a) := .mk hk ha h1 h2.1 h2.2 h3.1 h3.2
include he in
theorem assign_ts {r r0 r' : List Tok} {s : Sm} {d : Nat} (hr0 : TsOk r0) (hr : TsOk r) (h : assignP e (atT e r0) r = .ok (s, r')) : OkS s ∧ rightS s d = true ∧ TsOk r' := by
  have ha := atT_i64 he hr0
  unfold assignP at h
  cases hn : nameP e r with
  | error f => rw [hn] at h; cases h
  | ok p =>
    obtain ⟨t, r1⟩ := p
    rw [hn] at h; simp only at h
    obtain ⟨n1, _, k1⟩ := name_ts hr hn
    cases h2 : want e [61] r1 with
    | error f => rw [h2] at h; cases h
    | ok r2 =>
      rw [h2] at h; simp only at h
      have k2 := want_ts k1 h2
      split at h
      · cases h3 : swapP e r2.tail with
        | error f => rw [h3] at h; cases h
        | ok p =>
          obtain ⟨⟨o, x⟩, r3⟩ := p
          rw [h3] at h; simp only at h
          cases h
          obtain ⟨n2, a1, a2, k3⟩ := swap_ts k2.tail h3
          refine ⟨okS_mk ⟨by decide, by decide⟩ ha (okEs_one a1) okSs_nil okSs_nil, ?_, k3⟩
          rw [rightS]; simp [hasN, hasE, hasB, nmOk, rightX, rightSs, n1, n2, a2]
      · cases h3 : exprSemi e r2 with
        | error f => rw [h3] at h; cases h
        | ok p =>
          obtain ⟨x, r3⟩ := p
          rw [h3] at h; simp only at h
          cases h
          obtain ⟨a1, a2, k3⟩ := semi_ts k2 h3
          refine ⟨okS_mk ⟨by decide, by decide⟩ ha (okEs_one a1) okSs_nil okSs_nil, ?_, k3⟩
          rw [rightS]; simp [hasN, hasE, hasB, nmOk, rightX, rightSs, n1, a2]
include he in
theorem stmtW_right {bk : List Tok → PR (List Sm)} {d : Nat} (hb : BReads bk d) : SReads (stmtW e bk) d := by
  intro r s r' hr h
  have ha := atT_i64 he hr
  unfold stmtW at h
  split at h
  · cases h1 : condP e r.tail with
    | error f => rw [h1] at h; cases h
    | ok p =>
      obtain ⟨x, r1⟩ := p
      rw [h1] at h; simp only at h
      obtain ⟨a1, a2, k1⟩ := cond_ts hr.tail h1
      cases h2 : bk r1 with
      | error f => rw [h2] at h; cases h
      | ok p =>
        obtain ⟨b, r2⟩ := p
        rw [h2] at h; simp only at h
        obtain ⟨b1, b2, k2⟩ := hb _ _ _ k1 h2
        split at h
        · cases h3 : bk r2.tail with
          | error f => rw [h3] at h; cases h
          | ok p =>
            obtain ⟨l, r3⟩ := p
            rw [h3] at h; simp only at h
            cases h
            obtain ⟨c1, c2, k3⟩ := hb _ _ _ k2.tail h3
            refine ⟨okS_mk ⟨by decide, by decide⟩ ha (okEs_one a1) b1 c1, ?_, k3⟩
            rw [rightS]; simp [hasN, hasE, hasB, nmOk, rightX, a2, b2.1, b2.2, c2.2]
        · cases h
          refine ⟨okS_mk ⟨by decide, by decide⟩ ha (okEs_one a1) b1 okSs_nil, ?_, k2⟩
          rw [rightS]; simp [hasN, hasE, hasB, nmOk, rightX, rightSs, a2, b2.1, b2.2]
  · split at h
    · cases h1 : condP e r.tail with
      | error f => rw [h1] at h; cases h
      | ok p =>
        obtain ⟨x, r1⟩ := p
        rw [h1] at h; simp only at h
        obtain ⟨a1, a2, k1⟩ := cond_ts hr.tail h1
        cases h2 : bk r1 with
        | error f => rw [h2] at h; cases h
        | ok p =>
          obtain ⟨b, r2⟩ := p
          rw [h2] at h; simp only at h
          cases h
          obtain ⟨b1, b2, k2⟩ := hb _ _ _ k1 h2
          refine ⟨okS_mk ⟨by decide, by decide⟩ ha (okEs_one a1) b1 okSs_nil, ?_, k2⟩
          rw [rightS]; simp [hasN, hasE, hasB, nmOk, rightX, rightSs, a2, b2.1, b2.2]
    · split at h
      · cases h1 : nameP e r.tail with
        | error f => rw [h1] at h; cases h
        | ok p =>
          obtain ⟨t, r1⟩ := p
          rw [h1] at h; simp only at h
          obtain ⟨n1, _, k1⟩ := name_ts hr.tail h1
          cases h2 : bk r1 with
          | error f => rw [h2] at h; cases h
          | ok p =>
            obtain ⟨b, r2⟩ := p
            rw [h2] at h; simp only at h
            cases h
            obtain ⟨b1, b2, k2⟩ := hb _ _ _ k1 h2
            refine ⟨okS_mk ⟨by decide, by decide⟩ ha okEs_nil b1 okSs_nil, ?_, k2⟩
            rw [rightS]; simp [hasN, hasE, hasB, nmOk, rightX, rightSs, n1, b2.1, b2.2]
      · split at h
        · cases h1 : exprSemi e r.tail with
          | error f => rw [h1] at h; cases h
          | ok p =>
            obtain ⟨x, r1⟩ := p
            rw [h1] at h; simp only at h
            cases h
            obtain ⟨a1, a2, k1⟩ := semi_ts hr.tail h1
            refine ⟨okS_mk ⟨by decide, by decide⟩ ha (okEs_one a1) okSs_nil okSs_nil, ?_, k1⟩
            rw [rightS]; simp [hasN, hasE, hasB, nmOk, rightX, rightSs, a2]
        · split at h
          · cases h1 : want e [59] r.tail with
            | error f => rw [h1] at h; cases h
            | ok r1 =>
              rw [h1] at h; simp only at h
              cases h
              refine ⟨okS_mk ⟨by decide, by decide⟩ ha okEs_nil okSs_nil okSs_nil, ?_, want_ts hr.tail h1⟩
              rw [rightS]; simp [hasN, hasE, hasB, nmOk, rightX, rightSs]
          · exact assign_ts he hr hr h
theorem restW_right {st : List Tok → PR Sm} {d : Nat} (hs : SReads st d) : ∀ (n : Nat) (r : List Tok) (l : List Sm) (r' : List Tok), TsOk r → restW st n r = .ok (l, r') → (l.length < n ∧ ∀ x ∈ l, OkS x) ∧ rightSs l d = true ∧ TsOk r'
  | 0, r, l, r', _, h => by simp [restW] at h
  | n + 1, r, l, r', hr, h => by
    simp only [restW] at h
    split at h
    · cases h; exact ⟨⟨by simp, by simp⟩, rfl, hr.tail⟩
    · cases h1 : st r with
      | error f => rw [h1] at h; cases h
      | ok p =>
        obtain ⟨s, r1⟩ := p
        rw [h1] at h; simp only at h
        obtain ⟨a1, a2, k1⟩ := hs _ _ _ hr h1
        cases h2 : restW st n r1 with
        | error f => rw [h2] at h; cases h
        | ok p =>
          obtain ⟨l2, r2⟩ := p
          rw [h2] at h; simp only at h
          cases h
          obtain ⟨⟨b1, b2⟩, b3, k2⟩ := restW_right hs n r1 l2 _ k1 h2
          refine ⟨⟨by simp; omega, fun x hx => ?_⟩, by rw [rightSs, a2, b3]; rfl, k2⟩
          rcases List.mem_cons.1 hx with rfl | hx
          · exact a1
          · exact b2 x hx
theorem okSs_of {l : List Sm} (h : l.length ≤ 1099511627776) (hx : ∀ x ∈ l, OkS x) : OkSs l := ⟨h, fun j x hj => hx x (List.mem_of_getElem? hj)⟩
include he in
theorem stmt_right : ∀ (m d : Nat), d + m = 64 → SReads (stmtP e m) d
  | 0, d, hd => by
    intro r s r' hr h
    rw [stmtP] at h
    refine stmtW_right he (bk := fun r => if isT [123] r = true then fail e 3 r else fail e 2 r) (fun r l r' _ h => ?_) r s r' hr h
    dsimp only at h
    split at h <;> cases h
  | m + 1, d, hd => by
    intro r s r' hr h
    rw [stmtP] at h
    refine stmtW_right he (bk := fun r => match want e [123] r with | .error f => .error f | .ok r1 => restW (stmtP e m) (r1.length + 1) r1) (fun r l r' hr h => ?_) r s r' hr h
    dsimp only at h
    cases h1 : want e [123] r with
    | error f => rw [h1] at h; cases h
    | ok r1 =>
      rw [h1] at h; simp only at h
      have k1 := want_ts hr h1
      obtain ⟨⟨a1, a2⟩, a3, k2⟩ := restW_right (stmt_right m (d + 1) (by omega)) _ _ _ _ k1 h
      exact ⟨okSs_of (by have := k1.2; omega) a2, ⟨by omega, a3⟩, k2⟩
include he in
theorem rest_right {r r' : List Tok} {l : List Sm} (hr : TsOk r) (h : restP e 63 r = .ok (l, r')) : OkSs l ∧ rightSs l 1 = true ∧ TsOk r' := by
  obtain ⟨⟨a1, a2⟩, a3, k⟩ := restW_right (stmt_right he 63 1 rfl) _ _ _ _ hr h
  exact ⟨okSs_of (by have := hr.2; omega) a2, a3, k⟩

/-! ### programs -/
def DOk (b : Bool) (x : Dc) : Prop := dcOk b x = true ∧ i64 x.wd ∧ i64 x.a
theorem decl_right {r r' : List Tok} {x : Dc} (hr : TsOk r) (h : declP e r = .ok (x, r')) : DOk false x ∧ TsOk r' := by
  unfold declP at h
  cases hn : nameP e r with
  | error f => rw [hn] at h; cases h
  | ok p =>
    obtain ⟨t, r1⟩ := p
    rw [hn] at h; simp only at h
    cases h
    obtain ⟨n1, n2, k⟩ := name_ts hr hn
    exact ⟨⟨by simp [dcOk, n1], i64_nat (n := 0) (by omega), n2⟩, k⟩
theorem init_right {r r' : List Tok} {x : Dc} (hr : TsOk r) (h : initP e r = .ok (x, r')) : DOk true x ∧ TsOk r' := by
  unfold initP at h
  cases hn : nameP e r with
  | error f => rw [hn] at h; cases h
  | ok p =>
    obtain ⟨t, r1⟩ := p
    rw [hn] at h; simp only at h
    obtain ⟨n1, n2, k⟩ := name_ts hr hn
    split at h
    · obtain ⟨R, hR⟩ : ∃ R, R = (if isT [45] r1.tail = true then r1.tail.tail else r1.tail) := ⟨_, rfl⟩
      have kR : TsOk R := by
        rw [hR]; split
        · exact k.tail.tail
        · exact k.tail
      rw [← hR] at h
      split at h
      · cases h
      · rename_i y r2 hw
        cases h
        unfold wordP at hw
        split at hw
        · cases hw
          have hh := kR.here.word
          refine ⟨⟨?_, ?_, n2⟩, kR.tail⟩
          · simp only [dcOk, n1, Bool.true_and, if_true, decide_eq_true_eq, ne_eq]; split <;> omega
          · show i64 (if _ then _ else _)
            split
            · exact i64_neg hh
            · exact i64_nat hh
        · cases hw
    · cases h
      exact ⟨⟨by simp [dcOk, n1], i64_nat (n := 0) (by omega), n2⟩, k⟩
theorem decl_len {r r' : List Tok} {x : Dc} (h : declP e r = .ok (x, r')) : r'.length < r.length := by
  unfold declP nameP at h
  split at h
  · cases h
  · rename_i t r1 hn
    split at hn
    · rename_i hk
      cases hn; cases h
      exact tail_lt (kind_ne hk (by decide))
    · cases hn
theorem init_len {r r' : List Tok} {x : Dc} (h : initP e r = .ok (x, r')) : r'.length < r.length := by
  unfold initP nameP at h
  split at h
  · cases h
  · rename_i t r1 hn
    split at hn
    · rename_i hk
      cases hn
      have h0 := tail_lt (kind_ne hk (by decide))
      split at h
      · obtain ⟨R, hR⟩ : ∃ R, R = (if isT [45] r.tail.tail = true then r.tail.tail.tail else r.tail.tail) := ⟨_, rfl⟩
        have kR : R.length ≤ r.tail.length := by rw [hR]; split <;> simp only [List.length_tail] <;> omega
        rw [← hR] at h
        unfold wordP at h
        split at h
        · cases h
        · rename_i y r2 hw
          split at hw
          · cases hw; cases h
            have : R.tail.length ≤ R.length := by simp
            omega
          · cases hw
      · cases h; exact h0
    · cases hn
theorem list_right {one : List Tok → PR Dc} {b : Bool} (ho : ∀ r x r', TsOk r → one r = .ok (x, r') → DOk b x ∧ TsOk r') (hl : ∀ r x r', one r = .ok (x, r') → r'.length < r.length) : ∀ (n : Nat) (r : List Tok) (l : List Dc) (r' : List Tok), TsOk r → listP e one n r = .ok (l, r') → (∀ x ∈ l, DOk b x) ∧ l.length + r'.length ≤ r.length ∧ TsOk r'
  | 0, r, l, r', _, h => by simp [listP] at h
  | n + 1, r, l, r', hr, h => by
    simp only [listP] at h
    cases h1 : one r with
    | error f => rw [h1] at h; cases h
    | ok p =>
      obtain ⟨x, r1⟩ := p
      rw [h1] at h; simp only at h
      obtain ⟨a1, k1⟩ := ho _ _ _ hr h1
      have g1 := hl _ _ _ h1
      split at h
      · rename_i hc
        cases h2 : listP e one n r1.tail with
        | error f => rw [h2] at h; cases h
        | ok p =>
          obtain ⟨l2, r2⟩ := p
          rw [h2] at h; simp only at h
          cases h
          obtain ⟨b1, b2, k2⟩ := list_right ho hl n _ _ _ k1.tail h2
          have := tail_lt (isT_ne hc)
          refine ⟨fun y hy => ?_, by simp only [List.length_cons]; omega, k2⟩
          rcases List.mem_cons.1 hy with rfl | hy
          · exact a1
          · exact b1 y hy
      · cases h2 : want e [59] r1 with
        | error f => rw [h2] at h; cases h
        | ok r2 =>
          rw [h2] at h; simp only at h
          cases h
          obtain ⟨hc, rfl⟩ := want_ok h2
          have := tail_lt (isT_ne hc)
          refine ⟨fun y hy => ?_, by simp only [List.length_cons, List.length_nil]; omega, k1.tail⟩
          simp only [List.mem_cons, List.not_mem_nil, or_false] at hy
          subst hy; exact a1
theorem okD_of {b : Bool} {l : List Dc} (h : l.length ≤ 1099511627776) (hx : ∀ x ∈ l, DOk b x) : OkD l := ⟨h, fun j x hj => (hx x (List.mem_of_getElem? hj)).2⟩
theorem all_of {b : Bool} {l : List Dc} (hx : ∀ x ∈ l, DOk b x) : l.all (dcOk b) = true := List.all_eq_true.2 fun x h => (hx x h).1
theorem locals_right : ∀ (n : Nat) (r : List Tok) (l : List Dc) (r' : List Tok), TsOk r → localsP e n r = .ok (l, r') → (∀ x ∈ l, DOk false x) ∧ l.length + r'.length ≤ r.length ∧ TsOk r'
  | 0, r, l, r', _, h => by simp [localsP] at h
  | n + 1, r, l, r', hr, h => by
    simp only [localsP] at h
    split at h
    · rename_i hc
      have g0 := tail_lt (isT_ne hc)
      cases h1 : listP e (declP e) (r.length + 1) r.tail with
      | error f => rw [h1] at h; cases h
      | ok p =>
        obtain ⟨l1, r1⟩ := p
        rw [h1] at h; simp only at h
        obtain ⟨a1, a2, k1⟩ := list_right (fun _ _ _ h1 h2 => decl_right h1 h2) (fun _ _ _ h => decl_len h) _ _ _ _ hr.tail h1
        cases h2 : localsP e n r1 with
        | error f => rw [h2] at h; cases h
        | ok p =>
          obtain ⟨l2, r2⟩ := p
          rw [h2] at h; simp only at h
          cases h
          obtain ⟨b1, b2, k2⟩ := locals_right n _ _ _ k1 h2
          refine ⟨fun y hy => ?_, by simp only [List.length_append]; omega, k2⟩
          rcases List.mem_append.1 hy with hy | hy
          · exact a1 y hy
          · exact b1 y hy
    · cases h
      exact ⟨by simp, by simp, hr⟩
def TOk (t : Th) : Prop := thOk t = true ∧ OkD t.locals ∧ OkSs t.body ∧ i64 t.a
include he in
theorem thread_right {r r' : List Tok} {t : Th} (hr : TsOk r) (h : threadP e r = .ok (t, r')) : TOk t ∧ TsOk r' := by
  unfold threadP at h
  cases hn : nameP e r with
  | error f => rw [hn] at h; cases h
  | ok p =>
    obtain ⟨t0, r1⟩ := p
    rw [hn] at h; simp only at h
    obtain ⟨n1, n2, k1⟩ := name_ts hr hn
    cases h2 : want e [123] r1 with
    | error f => rw [h2] at h; cases h
    | ok r2 =>
      rw [h2] at h; simp only at h
      have k2 := want_ts k1 h2
      cases h3 : localsP e (r2.length + 1) r2 with
      | error f => rw [h3] at h; cases h
      | ok p =>
        obtain ⟨l, r3⟩ := p
        rw [h3] at h; simp only at h
        obtain ⟨a1, a2, k3⟩ := locals_right _ _ _ _ k2 h3
        cases h4 : restP e 63 r3 with
        | error f => rw [h4] at h; cases h
        | ok p =>
          obtain ⟨b, r4⟩ := p
          rw [h4] at h; simp only at h
          cases h
          obtain ⟨b1, b2, k4⟩ := rest_right he k3 h4
          refine ⟨⟨?_, okD_of (by have := k2.2; show l.length ≤ _; omega) a1, b1, n2⟩, k4⟩
          simp [thOk, n1, all_of a1, b2]
include he in
theorem threads_right : ∀ (n : Nat) (r : List Tok) (l : List Th) (r' : List Tok), TsOk r → threadsP e n r = .ok (l, r') → (∀ x ∈ l, TOk x) ∧ l.length < n ∧ TsOk r'
  | 0, r, l, r', _, h => by simp [threadsP] at h
  | n + 1, r, l, r', hr, h => by
    simp only [threadsP] at h
    split at h
    · cases h1 : threadP e r.tail with
      | error f => rw [h1] at h; cases h
      | ok p =>
        obtain ⟨t, r1⟩ := p
        rw [h1] at h; simp only at h
        obtain ⟨a1, k1⟩ := thread_right he hr.tail h1
        cases h2 : threadsP e n r1 with
        | error f => rw [h2] at h; cases h
        | ok p =>
          obtain ⟨l2, r2⟩ := p
          rw [h2] at h; simp only at h
          cases h
          obtain ⟨b1, b2, k2⟩ := threads_right n _ _ _ k1 h2
          refine ⟨fun y hy => ?_, by simp only [List.length_cons]; omega, k2⟩
          rcases List.mem_cons.1 hy with rfl | hy
          · exact a1
          · exact b1 y hy
    · cases h
      exact ⟨by simp, by simp, hr⟩
include he in
theorem prog_right : ∀ (n : Nat) (r : List Tok) (p : Pg), TsOk r → progP e n r = .ok p → (∀ x ∈ p.shared, DOk true x) ∧ (∀ x ∈ p.locks, DOk false x) ∧ (∀ x ∈ p.threads, TOk x) ∧ p.shared.length + p.locks.length ≤ r.length ∧ p.threads.length ≤ 1048576
  | 0, r, p, _, h => by simp [progP] at h
  | n + 1, r, p, hr, h => by
    simp only [progP] at h
    split at h
    · rename_i hc
      have g0 := tail_lt (isT_ne hc)
      cases h1 : listP e (initP e) (r.length + 1) r.tail with
      | error f => rw [h1] at h; cases h
      | ok q =>
        obtain ⟨l, r1⟩ := q
        rw [h1] at h; simp only at h
        obtain ⟨a1, a2, k1⟩ := list_right (fun _ _ _ h1 h2 => init_right h1 h2) (fun _ _ _ h => init_len h) _ _ _ _ hr.tail h1
        cases h2 : progP e n r1 with
        | error f => rw [h2] at h; cases h
        | ok p2 =>
          rw [h2] at h; simp only at h
          cases h
          obtain ⟨b1, b2, b3, b4, b5⟩ := prog_right n _ _ k1 h2
          refine ⟨fun y hy => ?_, b2, b3, by simp only [List.length_append]; omega, b5⟩
          rcases List.mem_append.1 hy with hy | hy
          · exact a1 y hy
          · exact b1 y hy
    · split at h
      · rename_i hc
        have g0 := tail_lt (isT_ne hc)
        cases h1 : listP e (declP e) (r.length + 1) r.tail with
        | error f => rw [h1] at h; cases h
        | ok q =>
          obtain ⟨l, r1⟩ := q
          rw [h1] at h; simp only at h
          obtain ⟨a1, a2, k1⟩ := list_right (fun _ _ _ h1 h2 => decl_right h1 h2) (fun _ _ _ h => decl_len h) _ _ _ _ hr.tail h1
          cases h2 : progP e n r1 with
          | error f => rw [h2] at h; cases h
          | ok p2 =>
            rw [h2] at h; simp only at h
            cases h
            obtain ⟨b1, b2, b3, b4, b5⟩ := prog_right n _ _ k1 h2
            refine ⟨b1, fun y hy => ?_, b3, by simp only [List.length_append]; omega, b5⟩
            rcases List.mem_append.1 hy with hy | hy
            · exact a1 y hy
            · exact b2 y hy
      · cases h1 : threadsP e (r.length + 1) r with
        | error f => rw [h1] at h; cases h
        | ok q =>
          obtain ⟨l, r1⟩ := q
          rw [h1] at h; simp only at h
          obtain ⟨a1, a2, k1⟩ := threads_right he _ _ _ _ hr h1
          split at h
          · cases h
            exact ⟨by simp, by simp, a1, by simp, by have := hr.2; show l.length ≤ _; omega⟩
          · cases h
end
theorem pg_of {p : Pg} (h1 : ∀ x ∈ p.shared, DOk true x) (h2 : ∀ x ∈ p.locks, DOk false x) (h3 : ∀ x ∈ p.threads, TOk x) (h4 : p.shared.length + p.locks.length ≤ 1048576) (h5 : p.threads.length ≤ 1048576) : pgOk p = true ∧ OkP p := by
  refine ⟨?_, okD_of (by omega) h1, okD_of (by omega) h2, by omega, fun j t hj => (h3 t (List.mem_of_getElem? hj)).2⟩
  unfold pgOk
  rw [all_of h1, all_of h2, List.all_eq_true.2 fun x h => (h3 x h).1]; rfl
theorem front_ts {s : List UInt8} (hs : s.length ≤ 65536) : TsOk (front s).1 := by
  obtain ⟨h1, h2⟩ := front_ok (s := s) (T := (front s).1) (f := (front s).2) rfl
  exact ⟨fun t ht => ⟨(h2 t ht).1, (h2 t ht).2.1, by have := (h2 t ht).2.2; omega⟩, by omega⟩
/-- a program that is parsed may be printed -/
theorem parse_right {s : List UInt8} {p : Pg} {a b : Nat} (h : parseRes s = (p, 0, a, b)) : pgOk p = true ∧ OkP p := by
  unfold parseRes at h
  split at h
  · cases h
  · rename_i hs
    split at h
    · cases h
    · have hts := front_ts (s := s) (by omega)
      split at h
      · cases h
      · rename_i q hq
        cases h
        obtain ⟨h1, h2, h3, h4, h5⟩ := prog_right (e := s.length) (by omega) _ _ _ hts hq
        have := hts.2
        exact pg_of h1 h2 h3 (by omega) h5
end ParS


/- The reader that goes on when it has failed: what it computes, against the parser that stops. No program in sight. -/
namespace ParS
open Sx LexS

/-- a reader's state: what is left; the first fault (a rule of 0: none yet) -/
structure RS where
  r : List Tok
  f : Flt
end ParS


/- The reader that goes on: lists, statements, threads, programs. -/
namespace ParS
open Sx LexS

/-- one reader behind another -/
def bnd {α β : Type} (p : PR α) (k : α → List Tok → PR β) : PR β := match p with
  | .error f => .error f
  | .ok (a, r) => k a r
def bndW {β : Type} (p : Except Flt (List Tok)) (k : List Tok → PR β) : PR β := match p with
  | .error f => .error f
  | .ok r => k r
section
variable {e : Nat}
section
variable {blk : List Tok → PR (List Sm)} {σ : RS} (hk : (here σ.r).kind = 4 → isSign (here σ.r).text = true)
include hk
end
/-- what stands behind an if's block -/
def elseP (blk : List Tok → PR (List Sm)) (a : Nat) (x : Ex) (b : List Sm) (r1 : List Tok) : PR Sm := if isT wElse r1 = true then bnd (blk r1.tail) (fun l r2 => .ok (Sm.mk 3 [] [] [x] b l (a : Int), r2)) else .ok (Sm.mk 3 [] [] [x] b [] (a : Int), r1)
theorem choice_eq (blk : List Tok → PR (List Sm)) (a : Nat) (r : List Tok) : bnd (condP e r) (fun x r => bnd (blk r) fun b r1 => elseP blk a x b r1) = choiceP e blk a r := by
  unfold choiceP bnd
  cases condP e r with
  | error f => rfl
  | ok p =>
    dsimp only
    cases blk p.2 with
    | error f => rfl
    | ok q =>
      dsimp only
      unfold elseP bnd
      split
      · cases blk q.2.tail <;> rfl
      · rfl
/-- what stands in a swap's parentheses, pieced together -/
def swapQ (e : Nat) (r : List Tok) : PR (List UInt8 × Ex) := bndW (ParS.want e [40] r) fun r => bnd (nameP e r) fun t r1 => bndW (ParS.want e [44] r1) fun r2 => bnd (exprP e 64 r2) fun x r3 => bndW (ParS.want e [41] r3) fun r4 => bndW (ParS.want e [59] r4) fun r5 => .ok ((t.text, x), r5)
theorem swapQ_eq (r : List Tok) : swapQ e r = swapP e r := by
  unfold swapQ swapP bnd bndW
  cases ParS.want e [40] r with
  | error f => rfl
  | ok r0 =>
    dsimp only
    cases nameP e r0 with
    | error f => rfl
    | ok p =>
      dsimp only
      cases ParS.want e [44] p.2 with
      | error f => rfl
      | ok r2 =>
        dsimp only
        cases exprP e 64 r2 with
        | error f => rfl
        | ok q =>
          dsimp only
          cases ParS.want e [41] q.2 with
          | error f => rfl
          | ok r4 => dsimp only; cases ParS.want e [59] r4 <;> rfl
def sideP (e : Nat) (a : Nat) (n : List UInt8) (r1 : List Tok) : PR Sm := if isT wSwap r1 = true then bnd (swapQ e r1.tail) (fun p r2 => .ok (Sm.mk 2 n p.1 [p.2] [] [] (a : Int), r2)) else bnd (exprSemi e r1) (fun x r2 => .ok (Sm.mk 1 n [] [x] [] [] (a : Int), r2))
theorem assign_eq (a : Nat) (r : List Tok) : bnd (nameP e r) (fun t r => bndW (ParS.want e [61] r) fun r1 => sideP e a t.text r1) = assignP e a r := by
  unfold assignP bnd bndW
  cases nameP e r with
  | error f => rfl
  | ok p =>
    dsimp only
    cases ParS.want e [61] p.2 with
    | error f => rfl
    | ok r1 =>
      dsimp only
      unfold sideP bnd
      split
      · rw [swapQ_eq]; cases swapP e r1.tail <;> rfl
      · cases exprSemi e r1 <;> rfl
/-! ### how far statements go -/
theorem want_len {s : List UInt8} {r r' : List Tok} (h : ParS.want e s r = .ok r') : r'.length < r.length := by
  obtain ⟨hc, rfl⟩ := want_ok h; exact tail_lt (isT_ne hc)
theorem thread_eq (r : List Tok) : bnd (nameP e r) (fun t r => bndW (ParS.want e [123] r) fun r1 => bnd (localsP e (r1.length + 1) r1) fun l r2 => bnd (restP e 63 r2) fun b r3 => .ok ((⟨t.text, l, b, (t.at_ : Int)⟩ : Th), r3)) = threadP e r := by
  unfold threadP bnd bndW
  cases nameP e r with
  | error f => rfl
  | ok p =>
    dsimp only
    cases ParS.want e [123] p.2 with
    | error f => rfl
    | ok r1 =>
      dsimp only
      cases localsP e (r1.length + 1) r1 with
      | error f => rfl
      | ok q => dsimp only; cases restP e 63 q.2 <;> rfl
end
end ParS

