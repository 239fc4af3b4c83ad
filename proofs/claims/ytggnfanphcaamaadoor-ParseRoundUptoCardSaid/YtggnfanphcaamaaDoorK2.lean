/- A part of the proof: contracts of functions and plain laws; each theorem says its own conditions. -/
import Derived.Test.YtggnfanphcaamaaDoorRows
import Derived.Test.YtggnfanphcaamaaDoorK1
import Derived.Test.YtggnfanphcaamaaDoorK0
/- What the parser computes, in plain words: no program in sight. -/
namespace ParS
open Sx LexS
set_option linter.unusedVariables false

/-- a rule that a text breaks, and where: (place, rule) -/
abbrev Flt := Nat × Nat
abbrev PR (α : Type) := Except Flt (α × List Tok)
def tok0 : Tok := ⟨0, [], 0, 0⟩
def here (ts : List Tok) : Tok := match ts with | t :: _ => t | [] => tok0
/-- the place of what stands here; 'e': the text's length -/
def atT (e : Nat) (ts : List Tok) : Nat := match ts with | t :: _ => t.at_ | [] => e
def isT (s : List UInt8) (ts : List Tok) : Bool := decide ((here ts).text = s) && (decide ((here ts).kind = 2) || decide ((here ts).kind = 4))
def fail {α : Type} (e rule : Nat) (ts : List Tok) : Except Flt α := .error (atT e ts, rule)
def want (e : Nat) (s : List UInt8) (ts : List Tok) : Except Flt (List Tok) := if isT s ts = true then .ok ts.tail else fail e 2 ts
def nameP (e : Nat) (ts : List Tok) : PR Tok := if (here ts).kind = 1 then .ok (here ts, ts.tail) else fail e 2 ts
def declP (e : Nat) (ts : List Tok) : PR Dc := match nameP e ts with
  | .error f => .error f
  | .ok (t, r) => .ok (⟨t.text, 0, (t.at_ : Int)⟩, r)
/-- a number behind a sign, or not -/
def wordP (e : Nat) (minus : Bool) (ts : List Tok) : PR Int := if (here ts).kind = 3 then .ok (if minus = true then -((here ts).word : Int) else ((here ts).word : Int), ts.tail) else fail e 2 ts
def initP (e : Nat) (ts : List Tok) : PR Dc := match nameP e ts with
  | .error f => .error f
  | .ok (t, r) => if isT [61] r = true then
      (match wordP e (isT [45] r.tail) (if isT [45] r.tail = true then r.tail.tail else r.tail) with
        | .error f => .error f
        | .ok (x, r') => .ok (⟨t.text, x, (t.at_ : Int)⟩, r'))
    else .ok (⟨t.text, 0, (t.at_ : Int)⟩, r)
/-- one or more, with commas between and a ; behind -/
def listP (e : Nat) (one : List Tok → PR Dc) : Nat → List Tok → PR (List Dc)
  | 0, ts => .error (0, 0)
  | n + 1, ts => match one ts with
    | .error f => .error f
    | .ok (d, r) => if isT [44] r = true then (match listP e one n r.tail with
        | .error f => .error f
        | .ok (l, r') => .ok (d :: l, r'))
      else match want e [59] r with
        | .error f => .error f
        | .ok r' => .ok ([d], r')

/-! ### expressions -/
/-- an operator of two that stands here -/
def opT (t : Tok) : Option Nat := if t.kind = 4 then findO t.text else none
/-- operators and what stands behind them -/
def flatE (u : List Tok → PR Ex) : Nat → List Tok → PR (List (Nat × Nat × Ex))
  | 0, ts => .error (0, 0)
  | n + 1, ts => match opT (here ts) with
    | none => .ok ([], ts)
    | some op => match u ts.tail with
      | .error f => .error f
      | .ok (x, r) => match flatE u n r with
        | .error f => .error f
        | .ok (l, r') => .ok ((op, (here ts).at_, x) :: l, r')
def binE (op a : Nat) (x y : Ex) : Ex := .mk 4 (op : Int) 0 [] [x, y] (a : Int)
abbrev Pend := Nat × Nat × Ex
/-- operators that wait and bind as strongly take their second side -/
def redu (all : Bool) (lv : Int) : List Pend → Ex → List Pend × Ex
  | [], x => ([], x)
  | (op, a, l) :: w, x => if all = true ∨ lv ≤ lvlO (op : Int) then redu all lv w (binE op a l x) else ((op, a, l) :: w, x)
def shunt : List Pend → List Pend → Ex → Ex
  | [], w, x => (redu true 0 w x).2
  | (op, a, y) :: r, w, x => shunt r ((op, a, (redu false (lvlO (op : Int)) w x).2) :: (redu false (lvlO (op : Int)) w x).1) y
def exprW (u : List Tok → PR Ex) (ts : List Tok) : PR Ex := match u ts with
  | .error f => .error f
  | .ok (x, r) => match flatE u (r.length + 1) r with
    | .error f => .error f
    | .ok (l, r') => .ok (shunt l [] x, r')
def leafP (e : Nat) (ts : List Tok) : PR Ex :=
  if (here ts).kind = 3 then .ok (.mk 1 0 ((here ts).word : Int) [] [] ((here ts).at_ : Int), ts.tail)
  else if (here ts).kind = 1 then .ok (.mk 2 0 0 (here ts).text [] ((here ts).at_ : Int), ts.tail)
  else fail e 2 ts
def innerT (ts : List Tok) : Bool := isT [45] ts || isT [33] ts || isT [40] ts
/-- 'm': how much deeper it may lie -/
def unaryP (e : Nat) : Nat → List Tok → PR Ex
  | 0, ts => if innerT ts = true then fail e 3 ts else leafP e ts
  | m + 1, ts => if innerT ts = true then
      (if (here ts).text = [40] then (match exprW (unaryP e m) ts.tail with
        | .error f => .error f
        | .ok (x, r) => match want e [41] r with
          | .error f => .error f
          | .ok r' => .ok (x, r'))
      else match unaryP e m ts.tail with
        | .error f => .error f
        | .ok (x, r) => .ok (.mk 3 (if (here ts).text = [33] then 18 else 17) 0 [] [x] ((here ts).at_ : Int), r))
    else leafP e ts
def exprP (e m : Nat) (ts : List Tok) : PR Ex := exprW (unaryP e m) ts

/-! ### statements -/
def condP (e : Nat) (ts : List Tok) : PR Ex := match want e [40] ts with
  | .error f => .error f
  | .ok r => match exprP e 64 r with
    | .error f => .error f
    | .ok (x, r1) => match want e [41] r1 with
      | .error f => .error f
      | .ok r2 => .ok (x, r2)
def exprSemi (e : Nat) (ts : List Tok) : PR Ex := match exprP e 64 ts with
  | .error f => .error f
  | .ok (x, r) => match want e [59] r with
    | .error f => .error f
    | .ok r' => .ok (x, r')
/-- what a swap's parentheses hold, and the ; -/
def swapP (e : Nat) (ts : List Tok) : PR (List UInt8 × Ex) := match want e [40] ts with
  | .error f => .error f
  | .ok r => match nameP e r with
    | .error f => .error f
    | .ok (t, r1) => match want e [44] r1 with
      | .error f => .error f
      | .ok r2 => match exprP e 64 r2 with
        | .error f => .error f
        | .ok (x, r3) => match want e [41] r3 with
          | .error f => .error f
          | .ok r4 => match want e [59] r4 with
            | .error f => .error f
            | .ok r5 => .ok ((t.text, x), r5)
def assignP (e : Nat) (a : Nat) (ts : List Tok) : PR Sm := match nameP e ts with
  | .error f => .error f
  | .ok (t, r) => match want e [61] r with
    | .error f => .error f
    | .ok r1 => if isT wSwap r1 = true then (match swapP e r1.tail with
        | .error f => .error f
        | .ok ((o, x), r2) => .ok (.mk 2 t.text o [x] [] [] (a : Int), r2))
      else match exprSemi e r1 with
        | .error f => .error f
        | .ok (x, r2) => .ok (.mk 1 t.text [] [x] [] [] (a : Int), r2)
/-- a word that a statement begins with -/
def formT (t : Tok) (s : List UInt8) : Bool := decide (t.text = s) && decide (t.kind = 2)
/-- a statement; 'blk': a block within -/
def stmtW (e : Nat) (blk : List Tok → PR (List Sm)) (ts : List Tok) : PR Sm :=
  if formT (here ts) wIf = true then (match condP e ts.tail with
    | .error f => .error f
    | .ok (x, r) => match blk r with
      | .error f => .error f
      | .ok (b, r1) => if isT wElse r1 = true then (match blk r1.tail with
          | .error f => .error f
          | .ok (l, r2) => .ok (.mk 3 [] [] [x] b l (atT e ts : Int), r2))
        else .ok (.mk 3 [] [] [x] b [] (atT e ts : Int), r1))
  else if formT (here ts) wWhile = true then (match condP e ts.tail with
    | .error f => .error f
    | .ok (x, r) => match blk r with
      | .error f => .error f
      | .ok (b, r1) => .ok (.mk 4 [] [] [x] b [] (atT e ts : Int), r1))
  else if formT (here ts) wLock = true then (match nameP e ts.tail with
    | .error f => .error f
    | .ok (t, r) => match blk r with
      | .error f => .error f
      | .ok (b, r1) => .ok (.mk 5 t.text [] [] b [] (atT e ts : Int), r1))
  else if formT (here ts) wPrint = true then (match exprSemi e ts.tail with
    | .error f => .error f
    | .ok (x, r) => .ok (.mk 6 [] [] [x] [] [] (atT e ts : Int), r))
  else if formT (here ts) wSkip = true then (match want e [59] ts.tail with
    | .error f => .error f
    | .ok r => .ok (.mk 7 [] [] [] [] [] (atT e ts : Int), r))
  else assignP e (atT e ts) ts
/-- statements up to the } , which is gone over -/
def restW (st : List Tok → PR Sm) : Nat → List Tok → PR (List Sm)
  | 0, ts => .error (0, 0)
  | n + 1, ts => if isT [125] ts = true then .ok ([], ts.tail) else match st ts with
    | .error f => .error f
    | .ok (s, r) => match restW st n r with
      | .error f => .error f
      | .ok (l, r') => .ok (s :: l, r')
/-- 'm': how much deeper blocks may lie -/
def stmtP (e : Nat) : Nat → List Tok → PR Sm
  | 0, ts => stmtW e (fun r => if isT [123] r = true then fail e 3 r else fail e 2 r) ts
  | m + 1, ts => stmtW e (fun r => match want e [123] r with
    | .error f => .error f
    | .ok r1 => restW (stmtP e m) (r1.length + 1) r1) ts
def restP (e m : Nat) (ts : List Tok) : PR (List Sm) := restW (stmtP e m) (ts.length + 1) ts

/-! ### programs -/
def localsP (e : Nat) : Nat → List Tok → PR (List Dc)
  | 0, ts => .error (0, 0)
  | n + 1, ts => if isT wLocal ts = true then (match listP e (declP e) (ts.length + 1) ts.tail with
      | .error f => .error f
      | .ok (l, r) => match localsP e n r with
        | .error f => .error f
        | .ok (l', r') => .ok (l ++ l', r'))
    else .ok ([], ts)
def threadP (e : Nat) (ts : List Tok) : PR Th := match nameP e ts with
  | .error f => .error f
  | .ok (t, r) => match want e [123] r with
    | .error f => .error f
    | .ok r1 => match localsP e (r1.length + 1) r1 with
      | .error f => .error f
      | .ok (l, r2) => match restP e 63 r2 with
        | .error f => .error f
        | .ok (b, r3) => .ok (⟨t.text, l, b, (t.at_ : Int)⟩, r3)
def threadsP (e : Nat) : Nat → List Tok → PR (List Th)
  | 0, ts => .error (0, 0)
  | n + 1, ts => if isT wThread ts = true then (match threadP e ts.tail with
      | .error f => .error f
      | .ok (t, r) => match threadsP e n r with
        | .error f => .error f
        | .ok (l, r') => .ok (t :: l, r'))
    else .ok ([], ts)
def progP (e : Nat) : Nat → List Tok → Except Flt Pg
  | 0, ts => .error (0, 0)
  | n + 1, ts => if isT wShared ts = true then (match listP e (initP e) (ts.length + 1) ts.tail with
      | .error f => .error f
      | .ok (l, r) => match progP e n r with
        | .error f => .error f
        | .ok p => .ok ⟨l ++ p.shared, p.locks, p.threads⟩)
    else if isT wLock ts = true then (match listP e (declP e) (ts.length + 1) ts.tail with
      | .error f => .error f
      | .ok (l, r) => match progP e n r with
        | .error f => .error f
        | .ok p => .ok ⟨p.shared, l ++ p.locks, p.threads⟩)
    else match threadsP e (ts.length + 1) ts with
      | .error f => .error f
      | .ok (l, r) => if r.length = 0 then .ok ⟨[], [], l⟩ else fail e 2 r
/-- Parse's answer: a program, an error, a place, a rule -/
def pg0 : Pg := ⟨[], [], []⟩
def parseRes (s : List UInt8) : Pg × Nat × Nat × Nat :=
  if 65536 < s.length then (pg0, 4, 0, 0) else match (front s).2 with
    | some (rule, p) => (pg0, 30, p, 1)
    | none => match progP s.length ((front s).1.length + 1) (front s).1 with
      | .error f => (pg0, 30, f.1, f.2)
      | .ok p => (p, 0, 0, 0)
def exprRes (s : List UInt8) : Ex × Nat × Nat × Nat :=
  if 65536 < s.length then (ex0, 4, 0, 0) else match (front s).2 with
    | some (rule, p) => (ex0, 30, p, 1)
    | none => match exprP s.length 64 (front s).1 with
      | .error f => (ex0, 30, f.1, f.2)
      | .ok (x, r) => if r.length = 0 then (x, 0, 0, 0) else (ex0, 30, atT s.length r, 2)
end ParS


/- What the parser computes, more: wanted words one after another; rests are rests of the tokens. -/
namespace ParS
open Sx LexS
set_option linter.unusedVariables false
set_option linter.unusedSimpArgs false

/-- words that must stand here, one behind the other -/
def wantL (e : Nat) : List (List UInt8) → List Tok → Except Flt (List Tok)
  | [], ts => .ok ts
  | s :: l, ts => match want e s ts with
    | .error f => .error f
    | .ok r => wantL e l r
theorem wantL_one (e : Nat) (s : List UInt8) (ts : List Tok) : wantL e [s] ts = want e s ts := by
  simp only [wantL]; split <;> simp_all
theorem isT_ne {s : List UInt8} {r : List Tok} (h : isT s r = true) : r ≠ [] := by
  rintro rfl; simp [isT, here, tok0] at h
theorem kind_ne {k : Nat} {r : List Tok} (h : (here r).kind = k) (hk : k ≠ 0) : r ≠ [] := by
  rintro rfl; exact hk h.symm
theorem inner_ne {r : List Tok} (h : innerT r = true) : r ≠ [] := by rintro rfl; simp [innerT, isT, here, tok0] at h
theorem tail_lt {r : List Tok} (h : r ≠ []) : r.tail.length < r.length := by
  cases r with
  | nil => exact absurd rfl h
  | cons x l => simp
theorem want_ok {e : Nat} {s : List UInt8} {ts r : List Tok} (h : want e s ts = .ok r) : isT s ts = true ∧ r = ts.tail := by
  unfold want at h; split at h
  · rename_i hc; cases h; exact ⟨hc, rfl⟩
  · cases h
theorem want_pos {e : Nat} {s : List UInt8} {ts : List Tok} (h : isT s ts = true) : want e s ts = .ok ts.tail := by unfold want; rw [if_pos h]
theorem want_neg {e : Nat} {s : List UInt8} {ts : List Tok} (h : isT s ts = false) : want e s ts = .error (atT e ts, 2) := by unfold want; rw [if_neg (by simp [h])]; rfl
end ParS


/- A parser in memory: its tokens, its place; what its functions hand back, and how they fail. -/
namespace Sx
open Go Go.RowKit LexS ParS
set_option linter.unusedVariables false
set_option linter.unusedSimpArgs false

abbrev tkL (t : Tok) : List Value := [.int .u8 (t.kind : Int), str t.text, .int .i64 (t.word : Int), .int .i64 (t.at_ : Int)]
abbrev exC (e : Ex) (oa : Option Addr) (cap : Nat) : List Value := [.int .u8 e.k, .int .u8 e.op, .int .i64 e.wd, str e.nm, .slice oa e.kids.length cap, .int .i64 e.a]
abbrev smC (s : Sm) (oe ob ol : Option Addr) (ce cb cl : Nat) : List Value := [.int .u8 s.k, str s.nm, str s.other, .slice oe s.e.length ce, .slice ob s.body.length cb, .slice ol s.els.length cl, .int .i64 s.a]
abbrev thC (t : Th) (ol ob : Option Addr) (cl cb : Nat) : List Value := [str t.nm, .slice ol t.locals.length cl, .slice ob t.body.length cb, .int .i64 t.a]
abbrev pgC (p : Pg) (os ol ot : Option Addr) (cs cl ct : Nat) : List Value := [.slice os p.shared.length cs, .slice ol p.locks.length cl, .slice ot p.threads.length ct]

/-- the operators' signs and levels, in the block of a variable -/
def SigAt (g : Nat) (w : World) : Prop := ∀ k, k < 19 → w.cell? ⟨g, k * 2, none⟩ = some (str (sgn k)) ∧ w.cell? ⟨g, k * 2 + 1, none⟩ = some (.int .i64 (lvl k))
theorem SigAt.kept {g : Nat} {M : List Nat} {w w' : World} (h : SigAt g w) (c : Chg M w w') (hg : g ∉ M) : SigAt g w' := fun k hk => ⟨c.cell (h k hk).1 hg, c.cell (h k hk).2 hg⟩

/-- what stays as long as a parser goes: 'pb' its block; 'n0': older blocks stay; 'T' the parser's type, 'R' the refusal's; 'g' the signs' block -/
structure PCtx where
  pb : Nat
  n0 : Nat
  oa : Option Addr
  cap : Nat
  ts : List Tok
  e : Nat
  T : Nat
  R : Nat
  g : Nat
/-- the parser's cells: its tokens, its place, the text's end; 'r' is what is left -/
abbrev pcell (c : PCtx) (r : List Tok) : List Value := [.slice c.oa c.ts.length c.cap, .int .i64 ((c.ts.length - r.length : Nat) : Int), .int .i64 (c.e : Int)]
abbrev PAt (c : PCtx) (r : List Tok) (w : World) : Prop := w.heap[c.pb]? = some (.cells (pcell c r).toArray c.T (0, 0))
/-- a refusal, as a panic's value -/
abbrev refV (c : PCtx) (f : Flt) : Value := .iface c.R (.agg #[.int .i64 (f.1 : Int), .int .i64 (f.2 : Int)])

structure PCok (c : PCtx) (w : World) : Prop where
  row : RowC w (· < c.n0) 4 c.oa c.ts.length (fun j => tkL (c.ts.getD j tok0))
  n0 : c.n0 ≤ c.pb
  g : c.g < c.n0
  len : c.ts.length ≤ 1048576
  el : c.e ≤ 1048576
  sig : SigAt c.g w
  le : c.n0 ≤ w.heap.size
  wd : ∀ t ∈ c.ts, t.word ≤ 9223372036854775807
theorem PCok.kept {c : PCtx} {M : List Nat} {w w' : World} (h : PCok c w) (k : Chg M w w') (hM : ∀ b ∈ M, c.n0 ≤ b) : PCok c w' :=
  ⟨h.row.kept (.of_chg k fun b hb hm => absurd (hM b hm) (Nat.not_le.2 hb)), h.n0, h.g, h.len, h.el, h.sig.kept k (fun hm => absurd (hM _ hm) (Nat.not_le.2 h.g)), Nat.le_trans h.le k.size, h.wd⟩
theorem PCok.k1 {c : PCtx} {w w' : World} (h : PCok c w) (k : Chg [c.pb] w w') : PCok c w' := h.kept k (by simpa using h.n0)
theorem PCok.k2 {c : PCtx} {b : Nat} {w w' : World} (h : PCok c w) (k : Chg [c.pb, b] w w') (hb : c.n0 ≤ b) : PCok c w' := h.kept k (by simpa using ⟨h.n0, hb⟩)

theorem suf_get {ts r : List Tok} (h : r <:+ ts) (hr : r ≠ []) : ts.getD (ts.length - r.length) tok0 = here r ∧ ts.length - r.length < ts.length := by
  obtain ⟨a, rfl⟩ := h
  cases r with
  | nil => exact absurd rfl hr
  | cons x l =>
    have e : (a ++ x :: l).length - (x :: l).length = a.length := by simp
    rw [e]
    exact ⟨by simp [List.getD, here], by simp⟩
theorem suf_len {ts r : List Tok} (h : r <:+ ts) : r.length ≤ ts.length := h.length_le
theorem suf_tail {ts r : List Tok} (h : r <:+ ts) : r.tail <:+ ts := (List.tail_suffix r).trans h
theorem here_wd {ts r : List Tok} (h : ∀ t ∈ ts, t.word ≤ 9223372036854775807) (hr : r <:+ ts) : (here r).word ≤ 9223372036854775807 := by
  cases r with
  | nil => exact Nat.zero_le _
  | cons x l => exact h x (hr.subset (.head _))
theorem neg_i64 {n : Nat} (h : n ≤ 9223372036854775807) : IntKind.i64.wrap (0 - (n : Int)) = -(n : Int) := by rw [IntWalk.i64_in _ ⟨by omega, by omega⟩]; omega
theorem here_nil {r : List Tok} (h : r.length = 0) : here r = tok0 := by rw [List.eq_nil_of_length_eq_zero h]; rfl
theorem atT_nil {e : Nat} {r : List Tok} (h : r.length = 0) : atT e r = e := by rw [List.eq_nil_of_length_eq_zero h]; rfl
theorem atT_cons {e : Nat} {r : List Tok} (h : r ≠ []) : atT e r = (here r).at_ := by cases r with | nil => exact absurd rfl h | cons x l => rfl

/-- the cells of the token that stands here -/
theorem PCok.tok {c : PCtx} {w : World} (h : PCok c w) {r : List Tok} (hs : r <:+ c.ts) (hr : r ≠ []) : ∃ b off, c.oa = some ⟨b, off, none⟩ ∧ ∀ i v, (tkL (here r))[i]? = some v → w.cell? ⟨b, off + (c.ts.length - r.length) * 4 + i, none⟩ = some v := by
  obtain ⟨h1, h2⟩ := suf_get hs hr
  rcases h.row with h0 | ⟨b, off, e, hb, hl, hc⟩
  · omega
  · refine ⟨b, off, e, fun i v hi => (hc _ h2).2 i v ?_⟩
    dsimp only; rw [h1]; exact hi

/-- what a function of a parser hands back -/
def PRes {α : Type} (c : PCtx) (r : List Tok) (res : PR α) (M : List Nat) (w : World) (H : α → Value → World → Prop) (v : Value) (w' : World) : Prop :=
  ∃ x r', res = .ok (x, r') ∧ r' <:+ r ∧ r'.length < r.length ∧ PAt c r' w' ∧ Chg M w w' ∧ H x v w'
/-- it refuses -/
def PErr {α : Type} (c : PCtx) (res : Except Flt α) (M : List Nat) (w : World) (v : Value) (w' : World) : Prop :=
  ∃ f, res = .error f ∧ v = refV c f ∧ Chg M w w'

section
variable {w w' w0 : World} {M : List Nat} {hs : List Res}
/-- a block that is held has been written on by a callee -/
theorem St.prs {b : Nat} {o o' : Obj} (st : St w0 M hs w) (i : Nat) (hi : nth hs i = some (.blk b o)) (ch : Chg [b] w w') (hm : b ∈ M ∨ w0.heap.size ≤ b) (h' : w'.heap[b]? = some o') : St w0 M (setNth hs i (.blk b o')) w' :=
  st.turn hi rfl rfl ch hm h'
/-- and something new has come -/
theorem St.prsT {b : Nat} {o o' : Obj} {q : Res} (st : St w0 M hs w) (i : Nat) (hi : nth hs i = some (.blk b o)) (ch : Chg [b] w w') (hm : b ∈ M ∨ w0.heap.size ≤ b) (h' : w'.heap[b]? = some o')
    (hq : q.holds w0.heap.size w') (hqa : ∀ k ∈ q.at?, w.heap.size ≤ k) : St w0 M (q :: setNth hs i (.blk b o')) w' :=
  st.swapPush hi ch (by simp [Res.at?]) (by simpa using hm) (by simp [Res.at?]) h' hq hqa
/-- two blocks that are held are two -/
theorem St.bne {b b' : Nat} {o o' : Obj} (st : St w0 M hs w) (i j : Nat) (hij : i ≠ j) (hi : nth hs i = some (.blk b o)) (hj : nth hs j = some (.blk b' o')) : b ≠ b' := fun e => apart_nth st.nodup hij hi hj b (.head _) (by rw [e]; exact .head _)
theorem holds_ex {tE base : Nat} {oa : Option Addr} {cap : Nat} {es : List Ex} {S : List Nat} (h : ExR tE w oa cap es S) : (Res.tree S fun w => ExR tE w oa cap es S).holds base w := holds_of h h.lt (fun a b h hk => h.kept hk)
theorem holds_sm {tE tS base : Nat} {oa : Option Addr} {cap : Nat} {es : List Sm} {S : List Nat} (h : SmR tE tS w oa cap es S) : (Res.tree S fun w => SmR tE tS w oa cap es S).holds base w := holds_of h h.lt (fun a b h hk => h.kept hk)
theorem holds_dc {tD base : Nat} {oa : Option Addr} {cap : Nat} {es : List Dc} {S : List Nat} (h : DcR tD w oa cap es S) : (Res.tree S fun w => DcR tD w oa cap es S).holds base w := holds_of h h.lt (fun a b h hk => h.kept hk)
end
end Sx


/- The engine, sixteenth part: arrays that are values; arrays in memory; the neg of a number. -/
namespace Sx
open Go Go.RowKit
set_option linter.unusedVariables false
set_option linter.unusedSimpArgs false
section
variable {w0 w w' : World} {M : List Nat} {hs : List Res}
variable {P : Program} {n : Fr} {L : List Oper} {Q : Exit → Act → World → Prop} {kn : Kn} {N : Act → World → Prop}
variable {d ty : Nat} {pos : String} {aft : Array Edge} {g : Option (Nat × Bool)}

theorem y_neg {T : Nat} {x : Operand} {k : IntKind} {p r : Int} (hx : evO kn x = some (.int k p)) (hr : k.wrap (0 - p) = r) : Y P n kn w ⟨some d, .unOp .neg T x, ty, pos, aft, g⟩ (.int k r) := fun a ha => by
  subst hr
  simp only [execOp, ha.ev hx]
  simp [Op.unary, Op.intArith, go_sem]
theorem run_part1 {T off : Nat} {cs : List Value} {v : Value} (ha : ∀ w, (Go.isAgg T).run P w = .ok false w) (hv : nth cs off = some v) : (part T cs.toArray off).run P w = .ok v w := by
  rw [nth_eq] at hv
  unfold part
  simp [ha, hv]
theorem run_partA {T off sz : Nat} {cs vs : List Value} (ha : ∀ w, (Go.isAgg T).run P w = .ok true w) (hs : ∀ w, (Go.sizeOf T).run P w = .ok sz w) (hv : takeN sz (dropN cs off) = some vs) : (part T cs.toArray off).run P w = .ok (.agg vs.toArray) w := by
  obtain ⟨h1, h2⟩ := takeN_spec hv
  rw [dropN_eq] at h1
  unfold part
  simp [ha, hs, h1]
/-- a field of a struct that is a value -/
theorem y_fld {T i off : Nat} {x : Operand} {cs : List Value} {fs : Array Field} {f : Field} {v : Value} (hx : evO kn x = some (.agg cs.toArray)) (ht : P.underlying T = some (.struct fs)) (hf : nth fs.toList i = some f) (ho : f.offset = off)
    (ha : ∀ w, (Go.isAgg f.type).run P w = .ok false w) (hv : nth cs off = some v) : Y P n kn w ⟨some d, .field T x i, ty, pos, aft, g⟩ v := fun a hk => by
  subst ho
  rw [nth_eq] at hf
  have hf' : fs[i]? = some f := by simpa using hf
  simp only [execOp, hk.ev hx]
  simp [Instr.field, run_underlying ht, hf', asAgg, run_part1 ha hv]
end
end Sx


namespace Go.Proofs.YtggnfanphcaamaaDoor
open Go.RowKit Sx LexS
set_option linter.unusedVariables false
set_option linter.unusedSimpArgs false
theorem Tryd.mixed : Tryd.prog.follows .mixedOrders = true := by kernel_rfl

theorem digit_any (c : UInt8) (w : World) : Ret Tryd.prog 78 [.int .u8 (c.toNat : Int)] w fun v w' => v = .bool (isDigit c) ∧ w' = w := by
  refine ret_of [_] Tryd.func78 rfl Tryd.ntmps78 rfl ?_
  have st := St.init w []
  refine vc_seq ?_
  refine vc_region ?_
  refine vc_y rfl rfl (y_as rfl) ?_
  refine vc_end ?_
  refine vq_then ?_
  refine vc_keep [(0, _)] ⟨rfl, trivial⟩ ?_
  refine vc_seq ?_
  refine vc_region ?_
  refine vc_y rfl rfl (y_mv rfl) ?_
  refine vc_y rfl rfl (y_geq rfl rfl) ?_
  refine vc_e (e_mvb rfl rfl rfl ?_ ?_)
  · intro hg5
    try simp only [decide_eq_true_eq, decide_eq_false_iff_not, Bool.not_eq_true', Bool.not_eq_false', Bool.not_eq_true, Bool.not_eq_false, Int.not_lt, Int.not_le, Nat.not_lt, Nat.not_le, Bool.not_true, Bool.not_false, Bool.true_eq_false, Bool.false_eq_true] at hg5
    refine vc_y rfl rfl (y_mv rfl) ?_
    refine vc_y rfl rfl (y_leq rfl rfl) ?_
    refine vc_y rfl rfl (y_pickt rfl rfl) ?_
    refine vc_y rfl rfl (y_as rfl) ?_
    refine vc_end ?_
    refine vq_then ?_
    refine vc_keep [(2, _)] ⟨rfl, trivial⟩ ?_
    refine vc_ret ?_
    refine vq_ret1 st (.inl rfl) Tryd.results78 (.tmp rfl) ?_
    refine ⟨_, rfl, ?_⟩
    exact ⟨by rw [Value.bool.injEq, Bool.eq_iff_iff]; simp only [isDigit, decide_eq_true_eq, true_iff, Bool.false_eq_true, false_iff]; omega, rfl⟩
  · intro hg5
    try simp only [decide_eq_true_eq, decide_eq_false_iff_not, Bool.not_eq_true', Bool.not_eq_false', Bool.not_eq_true, Bool.not_eq_false, Int.not_lt, Int.not_le, Nat.not_lt, Nat.not_le, Bool.not_true, Bool.not_false, Bool.true_eq_false, Bool.false_eq_true] at hg5
    refine vc_e (e_skip rfl rfl ?_)
    refine vc_e (e_skip rfl rfl ?_)
    refine vc_y rfl rfl (y_pickf rfl rfl) ?_
    refine vc_y rfl rfl (y_as rfl) ?_
    refine vc_end ?_
    refine vq_then ?_
    refine vc_keep [(2, _)] ⟨rfl, trivial⟩ ?_
    refine vc_ret ?_
    refine vq_ret1 st (.inl rfl) Tryd.results78 (.tmp rfl) ?_
    refine ⟨_, rfl, ?_⟩
    exact ⟨by rw [Value.bool.injEq, Bool.eq_iff_iff]; simp only [isDigit, decide_eq_true_eq, true_iff, Bool.false_eq_true, false_iff]; omega, rfl⟩

theorem letter_any (c : UInt8) (w : World) : Ret Tryd.prog 77 [.int .u8 (c.toNat : Int)] w fun v w' => v = .bool (isLetter c) ∧ w' = w := by
  refine ret_of [_] Tryd.func77 rfl Tryd.ntmps77 rfl ?_
  have st := St.init w []
  refine vc_seq ?_
  refine vc_region ?_
  refine vc_y rfl rfl (y_as rfl) ?_
  refine vc_end ?_
  refine vq_then ?_
  refine vc_keep [(0, _)] ⟨rfl, trivial⟩ ?_
  refine vc_seq ?_
  refine vc_region ?_
  refine vc_y rfl rfl (y_mv rfl) ?_
  refine vc_y rfl rfl (y_geq rfl rfl) ?_
  refine vc_e (e_mvb rfl rfl rfl ?_ ?_)
  · intro hg5
    try simp only [decide_eq_true_eq, decide_eq_false_iff_not, Bool.not_eq_true', Bool.not_eq_false', Bool.not_eq_true, Bool.not_eq_false, Int.not_lt, Int.not_le, Nat.not_lt, Nat.not_le, Bool.not_true, Bool.not_false, Bool.true_eq_false, Bool.false_eq_true] at hg5
    refine vc_y rfl rfl (y_mv rfl) ?_
    refine vc_y rfl rfl (y_leq rfl rfl) ?_
    refine vc_y rfl rfl (y_pickt rfl rfl) ?_
    refine vc_e (e_mvb rfl rfl rfl ?_ ?_)
    · intro hg9
      try simp only [decide_eq_true_eq, decide_eq_false_iff_not, Bool.not_eq_true', Bool.not_eq_false', Bool.not_eq_true, Bool.not_eq_false, Int.not_lt, Int.not_le, Nat.not_lt, Nat.not_le, Bool.not_true, Bool.not_false, Bool.true_eq_false, Bool.false_eq_true] at hg9
      refine vc_e (e_skip rfl rfl ?_)
      refine vc_e (e_skip rfl rfl ?_)
      refine vc_e (e_skip rfl rfl ?_)
      refine vc_e (e_skip rfl rfl ?_)
      refine vc_e (e_skip rfl rfl ?_)
      refine vc_e (e_skip rfl rfl ?_)
      refine vc_y rfl rfl (y_pickt rfl rfl) ?_
      refine vc_y rfl rfl (y_mv rfl) ?_
      refine vc_e (e_skip rfl rfl ?_)
      refine vc_e (e_skip rfl rfl ?_)
      refine vc_y rfl rfl (y_pickt rfl rfl) ?_
      refine vc_y rfl rfl (y_as rfl) ?_
      refine vc_end ?_
      refine vq_then ?_
      refine vc_keep [(2, _)] ⟨rfl, trivial⟩ ?_
      refine vc_ret ?_
      refine vq_ret1 st (.inl rfl) Tryd.results77 (.tmp rfl) ?_
      refine ⟨_, rfl, ?_⟩
      exact ⟨by rw [Value.bool.injEq, Bool.eq_iff_iff]; simp only [isLetter, decide_eq_true_eq, true_iff, Bool.false_eq_true, false_iff]; omega, rfl⟩
    · intro hg9
      try simp only [decide_eq_true_eq, decide_eq_false_iff_not, Bool.not_eq_true', Bool.not_eq_false', Bool.not_eq_true, Bool.not_eq_false, Int.not_lt, Int.not_le, Nat.not_lt, Nat.not_le, Bool.not_true, Bool.not_false, Bool.true_eq_false, Bool.false_eq_true] at hg9
      refine vc_y rfl rfl (y_mv rfl) ?_
      refine vc_y rfl rfl (y_geq rfl rfl) ?_
      refine vc_e (e_mvb rfl rfl rfl ?_ ?_)
      · intro hg12
        try simp only [decide_eq_true_eq, decide_eq_false_iff_not, Bool.not_eq_true', Bool.not_eq_false', Bool.not_eq_true, Bool.not_eq_false, Int.not_lt, Int.not_le, Nat.not_lt, Nat.not_le, Bool.not_true, Bool.not_false, Bool.true_eq_false, Bool.false_eq_true] at hg12
        refine vc_y rfl rfl (y_mv rfl) ?_
        refine vc_y rfl rfl (y_leq rfl rfl) ?_
        refine vc_y rfl rfl (y_pickt rfl rfl) ?_
        refine vc_y rfl rfl (y_pickf rfl rfl) ?_
        refine vc_e (e_mvb rfl rfl rfl ?_ ?_)
        · intro hg17
          try simp only [decide_eq_true_eq, decide_eq_false_iff_not, Bool.not_eq_true', Bool.not_eq_false', Bool.not_eq_true, Bool.not_eq_false, Int.not_lt, Int.not_le, Nat.not_lt, Nat.not_le, Bool.not_true, Bool.not_false, Bool.true_eq_false, Bool.false_eq_true] at hg17
          refine vc_e (e_skip rfl rfl ?_)
          refine vc_e (e_skip rfl rfl ?_)
          refine vc_y rfl rfl (y_pickt rfl rfl) ?_
          refine vc_y rfl rfl (y_as rfl) ?_
          refine vc_end ?_
          refine vq_then ?_
          refine vc_keep [(2, _)] ⟨rfl, trivial⟩ ?_
          refine vc_ret ?_
          refine vq_ret1 st (.inl rfl) Tryd.results77 (.tmp rfl) ?_
          refine ⟨_, rfl, ?_⟩
          exact ⟨by rw [Value.bool.injEq, Bool.eq_iff_iff]; simp only [isLetter, decide_eq_true_eq, true_iff, Bool.false_eq_true, false_iff]; omega, rfl⟩
        · intro hg17
          try simp only [decide_eq_true_eq, decide_eq_false_iff_not, Bool.not_eq_true', Bool.not_eq_false', Bool.not_eq_true, Bool.not_eq_false, Int.not_lt, Int.not_le, Nat.not_lt, Nat.not_le, Bool.not_true, Bool.not_false, Bool.true_eq_false, Bool.false_eq_true] at hg17
          refine vc_y rfl rfl (y_mv rfl) ?_
          refine vc_y rfl rfl (y_eqi rfl rfl) ?_
          refine vc_y rfl rfl (y_pickf rfl rfl) ?_
          refine vc_y rfl rfl (y_as rfl) ?_
          refine vc_end ?_
          refine vq_then ?_
          refine vc_keep [(2, _)] ⟨rfl, trivial⟩ ?_
          refine vc_ret ?_
          refine vq_ret1 st (.inl rfl) Tryd.results77 (.tmp rfl) ?_
          refine ⟨_, rfl, ?_⟩
          exact ⟨by rw [Value.bool.injEq, Bool.eq_iff_iff]; simp only [isLetter, decide_eq_true_eq, true_iff, Bool.false_eq_true, false_iff]; omega, rfl⟩
      · intro hg12
        try simp only [decide_eq_true_eq, decide_eq_false_iff_not, Bool.not_eq_true', Bool.not_eq_false', Bool.not_eq_true, Bool.not_eq_false, Int.not_lt, Int.not_le, Nat.not_lt, Nat.not_le, Bool.not_true, Bool.not_false, Bool.true_eq_false, Bool.false_eq_true] at hg12
        refine vc_e (e_skip rfl rfl ?_)
        refine vc_e (e_skip rfl rfl ?_)
        refine vc_y rfl rfl (y_pickf rfl rfl) ?_
        refine vc_y rfl rfl (y_pickf rfl rfl) ?_
        refine vc_y rfl rfl (y_mv rfl) ?_
        refine vc_y rfl rfl (y_mv rfl) ?_
        refine vc_y rfl rfl (y_eqi rfl rfl) ?_
        refine vc_y rfl rfl (y_pickf rfl rfl) ?_
        refine vc_y rfl rfl (y_as rfl) ?_
        refine vc_end ?_
        refine vq_then ?_
        refine vc_keep [(2, _)] ⟨rfl, trivial⟩ ?_
        refine vc_ret ?_
        refine vq_ret1 st (.inl rfl) Tryd.results77 (.tmp rfl) ?_
        refine ⟨_, rfl, ?_⟩
        exact ⟨by rw [Value.bool.injEq, Bool.eq_iff_iff]; simp only [isLetter, decide_eq_true_eq, true_iff, Bool.false_eq_true, false_iff]; omega, rfl⟩
  · intro hg5
    try simp only [decide_eq_true_eq, decide_eq_false_iff_not, Bool.not_eq_true', Bool.not_eq_false', Bool.not_eq_true, Bool.not_eq_false, Int.not_lt, Int.not_le, Nat.not_lt, Nat.not_le, Bool.not_true, Bool.not_false, Bool.true_eq_false, Bool.false_eq_true] at hg5
    refine vc_e (e_skip rfl rfl ?_)
    refine vc_e (e_skip rfl rfl ?_)
    refine vc_y rfl rfl (y_pickf rfl rfl) ?_
    refine vc_y rfl rfl (y_mv rfl) ?_
    refine vc_y rfl rfl (y_mv rfl) ?_
    refine vc_y rfl rfl (y_geq rfl rfl) ?_
    refine vc_e (e_mvb rfl rfl rfl ?_ ?_)
    · intro hg12
      try simp only [decide_eq_true_eq, decide_eq_false_iff_not, Bool.not_eq_true', Bool.not_eq_false', Bool.not_eq_true, Bool.not_eq_false, Int.not_lt, Int.not_le, Nat.not_lt, Nat.not_le, Bool.not_true, Bool.not_false, Bool.true_eq_false, Bool.false_eq_true] at hg12
      refine vc_y rfl rfl (y_mv rfl) ?_
      refine vc_y rfl rfl (y_leq rfl rfl) ?_
      refine vc_y rfl rfl (y_pickt rfl rfl) ?_
      refine vc_y rfl rfl (y_pickf rfl rfl) ?_
      refine vc_e (e_mvb rfl rfl rfl ?_ ?_)
      · intro hg17
        try simp only [decide_eq_true_eq, decide_eq_false_iff_not, Bool.not_eq_true', Bool.not_eq_false', Bool.not_eq_true, Bool.not_eq_false, Int.not_lt, Int.not_le, Nat.not_lt, Nat.not_le, Bool.not_true, Bool.not_false, Bool.true_eq_false, Bool.false_eq_true] at hg17
        refine vc_e (e_skip rfl rfl ?_)
        refine vc_e (e_skip rfl rfl ?_)
        refine vc_y rfl rfl (y_pickt rfl rfl) ?_
        refine vc_y rfl rfl (y_as rfl) ?_
        refine vc_end ?_
        refine vq_then ?_
        refine vc_keep [(2, _)] ⟨rfl, trivial⟩ ?_
        refine vc_ret ?_
        refine vq_ret1 st (.inl rfl) Tryd.results77 (.tmp rfl) ?_
        refine ⟨_, rfl, ?_⟩
        exact ⟨by rw [Value.bool.injEq, Bool.eq_iff_iff]; simp only [isLetter, decide_eq_true_eq, true_iff, Bool.false_eq_true, false_iff]; omega, rfl⟩
      · intro hg17
        try simp only [decide_eq_true_eq, decide_eq_false_iff_not, Bool.not_eq_true', Bool.not_eq_false', Bool.not_eq_true, Bool.not_eq_false, Int.not_lt, Int.not_le, Nat.not_lt, Nat.not_le, Bool.not_true, Bool.not_false, Bool.true_eq_false, Bool.false_eq_true] at hg17
        refine vc_y rfl rfl (y_mv rfl) ?_
        refine vc_y rfl rfl (y_eqi rfl rfl) ?_
        refine vc_y rfl rfl (y_pickf rfl rfl) ?_
        refine vc_y rfl rfl (y_as rfl) ?_
        refine vc_end ?_
        refine vq_then ?_
        refine vc_keep [(2, _)] ⟨rfl, trivial⟩ ?_
        refine vc_ret ?_
        refine vq_ret1 st (.inl rfl) Tryd.results77 (.tmp rfl) ?_
        refine ⟨_, rfl, ?_⟩
        exact ⟨by rw [Value.bool.injEq, Bool.eq_iff_iff]; simp only [isLetter, decide_eq_true_eq, true_iff, Bool.false_eq_true, false_iff]; omega, rfl⟩
    · intro hg12
      try simp only [decide_eq_true_eq, decide_eq_false_iff_not, Bool.not_eq_true', Bool.not_eq_false', Bool.not_eq_true, Bool.not_eq_false, Int.not_lt, Int.not_le, Nat.not_lt, Nat.not_le, Bool.not_true, Bool.not_false, Bool.true_eq_false, Bool.false_eq_true] at hg12
      refine vc_e (e_skip rfl rfl ?_)
      refine vc_e (e_skip rfl rfl ?_)
      refine vc_y rfl rfl (y_pickf rfl rfl) ?_
      refine vc_y rfl rfl (y_pickf rfl rfl) ?_
      refine vc_y rfl rfl (y_mv rfl) ?_
      refine vc_y rfl rfl (y_mv rfl) ?_
      refine vc_y rfl rfl (y_eqi rfl rfl) ?_
      refine vc_y rfl rfl (y_pickf rfl rfl) ?_
      refine vc_y rfl rfl (y_as rfl) ?_
      refine vc_end ?_
      refine vq_then ?_
      refine vc_keep [(2, _)] ⟨rfl, trivial⟩ ?_
      refine vc_ret ?_
      refine vq_ret1 st (.inl rfl) Tryd.results77 (.tmp rfl) ?_
      refine ⟨_, rfl, ?_⟩
      exact ⟨by rw [Value.bool.injEq, Bool.eq_iff_iff]; simp only [isLetter, decide_eq_true_eq, true_iff, Bool.false_eq_true, false_iff]; omega, rfl⟩

theorem blank_any (c : UInt8) (w : World) : Ret Tryd.prog 89 [.int .u8 (c.toNat : Int)] w fun v w' => v = .bool (isBlank c) ∧ w' = w := by
  refine ret_of [_] Tryd.func89 rfl Tryd.ntmps89 rfl ?_
  have st := St.init w []
  refine vc_seq ?_
  refine vc_region ?_
  refine vc_y rfl rfl (y_as rfl) ?_
  refine vc_end ?_
  refine vq_then ?_
  refine vc_keep [(0, _)] ⟨rfl, trivial⟩ ?_
  refine vc_seq ?_
  refine vc_region ?_
  refine vc_y rfl rfl (y_mv rfl) ?_
  refine vc_y rfl rfl (y_eqi rfl rfl) ?_
  refine vc_e (e_mvb rfl rfl rfl ?_ ?_)
  · intro hg5
    try simp only [decide_eq_true_eq, decide_eq_false_iff_not, Bool.not_eq_true', Bool.not_eq_false', Bool.not_eq_true, Bool.not_eq_false, Int.not_lt, Int.not_le, Nat.not_lt, Nat.not_le, Bool.not_true, Bool.not_false, Bool.true_eq_false, Bool.false_eq_true] at hg5
    refine vc_e (e_skip rfl rfl ?_)
    refine vc_e (e_skip rfl rfl ?_)
    refine vc_y rfl rfl (y_pickt rfl rfl) ?_
    refine vc_y rfl rfl (y_mv rfl) ?_
    refine vc_e (e_skip rfl rfl ?_)
    refine vc_e (e_skip rfl rfl ?_)
    refine vc_y rfl rfl (y_pickt rfl rfl) ?_
    refine vc_y rfl rfl (y_mv rfl) ?_
    refine vc_e (e_skip rfl rfl ?_)
    refine vc_e (e_skip rfl rfl ?_)
    refine vc_y rfl rfl (y_pickt rfl rfl) ?_
    refine vc_y rfl rfl (y_as rfl) ?_
    refine vc_end ?_
    refine vq_then ?_
    refine vc_keep [(2, _)] ⟨rfl, trivial⟩ ?_
    refine vc_ret ?_
    refine vq_ret1 st (.inl rfl) Tryd.results89 (.tmp rfl) ?_
    refine ⟨_, rfl, ?_⟩
    exact ⟨by rw [Value.bool.injEq, Bool.eq_iff_iff]; simp only [isBlank, decide_eq_true_eq, true_iff, Bool.false_eq_true, false_iff]; omega, rfl⟩
  · intro hg5
    try simp only [decide_eq_true_eq, decide_eq_false_iff_not, Bool.not_eq_true', Bool.not_eq_false', Bool.not_eq_true, Bool.not_eq_false, Int.not_lt, Int.not_le, Nat.not_lt, Nat.not_le, Bool.not_true, Bool.not_false, Bool.true_eq_false, Bool.false_eq_true] at hg5
    refine vc_y rfl rfl (y_mv rfl) ?_
    refine vc_y rfl rfl (y_eqi rfl rfl) ?_
    refine vc_y rfl rfl (y_pickf rfl rfl) ?_
    refine vc_e (e_mvb rfl rfl rfl ?_ ?_)
    · intro hg9
      try simp only [decide_eq_true_eq, decide_eq_false_iff_not, Bool.not_eq_true', Bool.not_eq_false', Bool.not_eq_true, Bool.not_eq_false, Int.not_lt, Int.not_le, Nat.not_lt, Nat.not_le, Bool.not_true, Bool.not_false, Bool.true_eq_false, Bool.false_eq_true] at hg9
      refine vc_e (e_skip rfl rfl ?_)
      refine vc_e (e_skip rfl rfl ?_)
      refine vc_y rfl rfl (y_pickt rfl rfl) ?_
      refine vc_y rfl rfl (y_mv rfl) ?_
      refine vc_e (e_skip rfl rfl ?_)
      refine vc_e (e_skip rfl rfl ?_)
      refine vc_y rfl rfl (y_pickt rfl rfl) ?_
      refine vc_y rfl rfl (y_as rfl) ?_
      refine vc_end ?_
      refine vq_then ?_
      refine vc_keep [(2, _)] ⟨rfl, trivial⟩ ?_
      refine vc_ret ?_
      refine vq_ret1 st (.inl rfl) Tryd.results89 (.tmp rfl) ?_
      refine ⟨_, rfl, ?_⟩
      exact ⟨by rw [Value.bool.injEq, Bool.eq_iff_iff]; simp only [isBlank, decide_eq_true_eq, true_iff, Bool.false_eq_true, false_iff]; omega, rfl⟩
    · intro hg9
      try simp only [decide_eq_true_eq, decide_eq_false_iff_not, Bool.not_eq_true', Bool.not_eq_false', Bool.not_eq_true, Bool.not_eq_false, Int.not_lt, Int.not_le, Nat.not_lt, Nat.not_le, Bool.not_true, Bool.not_false, Bool.true_eq_false, Bool.false_eq_true] at hg9
      refine vc_y rfl rfl (y_mv rfl) ?_
      refine vc_y rfl rfl (y_eqi rfl rfl) ?_
      refine vc_y rfl rfl (y_pickf rfl rfl) ?_
      refine vc_e (e_mvb rfl rfl rfl ?_ ?_)
      · intro hg13
        try simp only [decide_eq_true_eq, decide_eq_false_iff_not, Bool.not_eq_true', Bool.not_eq_false', Bool.not_eq_true, Bool.not_eq_false, Int.not_lt, Int.not_le, Nat.not_lt, Nat.not_le, Bool.not_true, Bool.not_false, Bool.true_eq_false, Bool.false_eq_true] at hg13
        refine vc_e (e_skip rfl rfl ?_)
        refine vc_e (e_skip rfl rfl ?_)
        refine vc_y rfl rfl (y_pickt rfl rfl) ?_
        refine vc_y rfl rfl (y_as rfl) ?_
        refine vc_end ?_
        refine vq_then ?_
        refine vc_keep [(2, _)] ⟨rfl, trivial⟩ ?_
        refine vc_ret ?_
        refine vq_ret1 st (.inl rfl) Tryd.results89 (.tmp rfl) ?_
        refine ⟨_, rfl, ?_⟩
        exact ⟨by rw [Value.bool.injEq, Bool.eq_iff_iff]; simp only [isBlank, decide_eq_true_eq, true_iff, Bool.false_eq_true, false_iff]; omega, rfl⟩
      · intro hg13
        try simp only [decide_eq_true_eq, decide_eq_false_iff_not, Bool.not_eq_true', Bool.not_eq_false', Bool.not_eq_true, Bool.not_eq_false, Int.not_lt, Int.not_le, Nat.not_lt, Nat.not_le, Bool.not_true, Bool.not_false, Bool.true_eq_false, Bool.false_eq_true] at hg13
        refine vc_y rfl rfl (y_mv rfl) ?_
        refine vc_y rfl rfl (y_eqi rfl rfl) ?_
        refine vc_y rfl rfl (y_pickf rfl rfl) ?_
        refine vc_y rfl rfl (y_as rfl) ?_
        refine vc_end ?_
        refine vq_then ?_
        refine vc_keep [(2, _)] ⟨rfl, trivial⟩ ?_
        refine vc_ret ?_
        refine vq_ret1 st (.inl rfl) Tryd.results89 (.tmp rfl) ?_
        refine ⟨_, rfl, ?_⟩
        exact ⟨by rw [Value.bool.injEq, Bool.eq_iff_iff]; simp only [isBlank, decide_eq_true_eq, true_iff, Bool.false_eq_true, false_iff]; omega, rfl⟩

end Go.Proofs.YtggnfanphcaamaaDoor


namespace Go.Proofs.YtggnfanphcaamaaDoor
open Go.RowKit Sx LexS ParS
set_option linter.unusedVariables false
set_option linter.unusedSimpArgs false

theorem known_any (k : Int) (w : World) : Ret Tryd.prog 36 [.int .u8 k] w fun v w' => v = .bool (knownOp k) ∧ w' = w := by
  refine ret_of [_] Tryd.func36 rfl Tryd.ntmps36 rfl ?_
  have st := St.init w []
  refine vc_seq ?_
  refine vc_region ?_
  refine vc_y rfl rfl (y_as rfl) ?_
  refine vc_end ?_
  refine vq_then ?_
  refine vc_keep [(0, _)] ⟨rfl, trivial⟩ ?_
  refine vc_seq ?_
  refine vc_region ?_
  refine vc_y rfl rfl (y_mv rfl) ?_
  refine vc_y rfl rfl (y_gtr rfl rfl) ?_
  refine vc_e (e_mvb rfl rfl rfl ?_ ?_)
  · intro hg5
    try simp only [decide_eq_true_eq, decide_eq_false_iff_not, Bool.not_eq_true', Bool.not_eq_false', Bool.not_eq_true, Bool.not_eq_false, Int.not_lt, Int.not_le, Nat.not_lt, Nat.not_le, Bool.not_true, Bool.not_false, Bool.true_eq_false, Bool.false_eq_true] at hg5
    refine vc_y rfl rfl (y_mv rfl) ?_
    refine vc_y rfl rfl (y_lss rfl rfl) ?_
    refine vc_y rfl rfl (y_pickt rfl rfl) ?_
    refine vc_y rfl rfl (y_as rfl) ?_
    refine vc_end ?_
    refine vq_then ?_
    refine vc_keep [(2, _)] ⟨rfl, trivial⟩ ?_
    refine vc_ret ?_
    refine vq_ret1 st (.inl rfl) Tryd.results36 (.tmp rfl) ?_
    refine ⟨_, rfl, ?_⟩
    refine ⟨?_, rfl⟩
    congr 1
    unfold knownOp
    first | (rw [Bool.eq_iff_iff]; simp; omega) | (symm; simp; omega)
  · intro hg5
    try simp only [decide_eq_true_eq, decide_eq_false_iff_not, Bool.not_eq_true', Bool.not_eq_false', Bool.not_eq_true, Bool.not_eq_false, Int.not_lt, Int.not_le, Nat.not_lt, Nat.not_le, Bool.not_true, Bool.not_false, Bool.true_eq_false, Bool.false_eq_true] at hg5
    refine vc_e (e_skip rfl rfl ?_)
    refine vc_e (e_skip rfl rfl ?_)
    refine vc_y rfl rfl (y_pickf rfl rfl) ?_
    refine vc_y rfl rfl (y_as rfl) ?_
    refine vc_end ?_
    refine vq_then ?_
    refine vc_keep [(2, _)] ⟨rfl, trivial⟩ ?_
    refine vc_ret ?_
    refine vq_ret1 st (.inl rfl) Tryd.results36 (.tmp rfl) ?_
    refine ⟨_, rfl, ?_⟩
    refine ⟨?_, rfl⟩
    congr 1
    unfold knownOp
    first | (rw [Bool.eq_iff_iff]; simp; omega) | (symm; simp; omega)

theorem two_any (k : Int) (w : World) : Ret Tryd.prog 13 [.int .u8 k] w fun v w' => v = .bool (twoOp k) ∧ w' = w := by
  refine ret_of [_] Tryd.func13 rfl Tryd.ntmps13 rfl ?_
  have st := St.init w []
  refine vc_seq ?_
  refine vc_region ?_
  refine vc_y rfl rfl (y_as rfl) ?_
  refine vc_end ?_
  refine vq_then ?_
  refine vc_keep [(0, _)] ⟨rfl, trivial⟩ ?_
  refine vc_seq ?_
  refine vc_region ?_
  refine vc_y rfl rfl (y_mv rfl) ?_
  refine vc_e (e_call [_] rfl rfl Tryd.call36 rfl (known_any _ _) ?_)
  rintro _ _ ⟨rfl, rfl⟩
  refine vc_e (e_mvb rfl rfl rfl ?_ ?_)
  · intro hg5
    try simp only [decide_eq_true_eq, decide_eq_false_iff_not, Bool.not_eq_true', Bool.not_eq_false', Bool.not_eq_true, Bool.not_eq_false, Int.not_lt, Int.not_le, Nat.not_lt, Nat.not_le, Bool.not_true, Bool.not_false, Bool.true_eq_false, Bool.false_eq_true] at hg5
    refine vc_y rfl rfl (y_mv rfl) ?_
    refine vc_y rfl rfl (y_nei rfl rfl) ?_
    refine vc_y rfl rfl (y_pickt rfl rfl) ?_
    refine vc_e (e_mvb rfl rfl rfl ?_ ?_)
    · intro hg9
      try simp only [decide_eq_true_eq, decide_eq_false_iff_not, Bool.not_eq_true', Bool.not_eq_false', Bool.not_eq_true, Bool.not_eq_false, Int.not_lt, Int.not_le, Nat.not_lt, Nat.not_le, Bool.not_true, Bool.not_false, Bool.true_eq_false, Bool.false_eq_true] at hg9
      refine vc_y rfl rfl (y_mv rfl) ?_
      refine vc_y rfl rfl (y_nei rfl rfl) ?_
      refine vc_y rfl rfl (y_pickt rfl rfl) ?_
      refine vc_y rfl rfl (y_as rfl) ?_
      refine vc_end ?_
      refine vq_then ?_
      refine vc_keep [(2, _)] ⟨rfl, trivial⟩ ?_
      refine vc_ret ?_
      refine vq_ret1 st (.inl rfl) Tryd.results13 (.tmp rfl) ?_
      refine ⟨_, rfl, ?_⟩
      refine ⟨?_, rfl⟩
      show Value.bool _ = Value.bool _
      congr 1
      unfold knownOp at *
      unfold twoOp
      simp only [decide_eq_true_eq, decide_eq_false_iff_not, Bool.not_eq_true', Bool.not_eq_false'] at *
      first | (symm; rw [decide_eq_false_iff_not]; omega) | (rw [Bool.eq_iff_iff]; simp only [Bool.not_eq_true', decide_eq_false_iff_not, decide_eq_true_eq]; omega)
    · intro hg9
      try simp only [decide_eq_true_eq, decide_eq_false_iff_not, Bool.not_eq_true', Bool.not_eq_false', Bool.not_eq_true, Bool.not_eq_false, Int.not_lt, Int.not_le, Nat.not_lt, Nat.not_le, Bool.not_true, Bool.not_false, Bool.true_eq_false, Bool.false_eq_true] at hg9
      refine vc_e (e_skip rfl rfl ?_)
      refine vc_e (e_skip rfl rfl ?_)
      refine vc_y rfl rfl (y_pickf rfl rfl) ?_
      refine vc_y rfl rfl (y_as rfl) ?_
      refine vc_end ?_
      refine vq_then ?_
      refine vc_keep [(2, _)] ⟨rfl, trivial⟩ ?_
      refine vc_ret ?_
      refine vq_ret1 st (.inl rfl) Tryd.results13 (.tmp rfl) ?_
      refine ⟨_, rfl, ?_⟩
      refine ⟨?_, rfl⟩
      show Value.bool _ = Value.bool _
      congr 1
      unfold knownOp at *
      unfold twoOp
      simp only [decide_eq_true_eq, decide_eq_false_iff_not, Bool.not_eq_true', Bool.not_eq_false'] at *
      first | (symm; rw [decide_eq_false_iff_not]; omega) | (rw [Bool.eq_iff_iff]; simp only [Bool.not_eq_true', decide_eq_false_iff_not, decide_eq_true_eq]; omega)
  · intro hg5
    try simp only [decide_eq_true_eq, decide_eq_false_iff_not, Bool.not_eq_true', Bool.not_eq_false', Bool.not_eq_true, Bool.not_eq_false, Int.not_lt, Int.not_le, Nat.not_lt, Nat.not_le, Bool.not_true, Bool.not_false, Bool.true_eq_false, Bool.false_eq_true] at hg5
    refine vc_e (e_skip rfl rfl ?_)
    refine vc_e (e_skip rfl rfl ?_)
    refine vc_y rfl rfl (y_pickf rfl rfl) ?_
    refine vc_y rfl rfl (y_mv rfl) ?_
    refine vc_e (e_skip rfl rfl ?_)
    refine vc_e (e_skip rfl rfl ?_)
    refine vc_y rfl rfl (y_pickf rfl rfl) ?_
    refine vc_y rfl rfl (y_as rfl) ?_
    refine vc_end ?_
    refine vq_then ?_
    refine vc_keep [(2, _)] ⟨rfl, trivial⟩ ?_
    refine vc_ret ?_
    refine vq_ret1 st (.inl rfl) Tryd.results13 (.tmp rfl) ?_
    refine ⟨_, rfl, ?_⟩
    refine ⟨?_, rfl⟩
    show Value.bool _ = Value.bool _
    congr 1
    unfold knownOp at *
    unfold twoOp
    simp only [decide_eq_true_eq, decide_eq_false_iff_not, Bool.not_eq_true', Bool.not_eq_false'] at *
    first | (symm; rw [decide_eq_false_iff_not]; omega) | (rw [Bool.eq_iff_iff]; simp only [Bool.not_eq_true', decide_eq_false_iff_not, decide_eq_true_eq]; omega)

theorem level_any (k : Int) (w : World) (hs : SigAt 0 w) : Ret Tryd.prog 15 [.int .u8 k] w fun v w' => v = .int .i64 (lvlO k) ∧ w' = w := by
  refine ret_of [_] Tryd.func15 rfl Tryd.ntmps15 rfl ?_
  have st := St.init w []
  refine vc_seq ?_
  refine vc_region ?_
  refine vc_y rfl rfl (y_as rfl) ?_
  refine vc_end ?_
  refine vq_then ?_
  refine vc_keep [(0, _)] ⟨rfl, trivial⟩ ?_
  refine vc_seq ?_
  refine vc_seq ?_
  refine vc_region ?_
  refine vc_y rfl rfl (y_mv rfl) ?_
  refine vc_e (e_call [_] rfl rfl Tryd.call36 rfl (known_any _ _) ?_)
  rintro _ _ ⟨rfl, rfl⟩
  refine vc_y rfl rfl (y_not rfl) ?_
  refine vc_end ?_
  refine vq_then ?_
  refine vc_keep [(0, _), (5, _)] ⟨rfl, rfl, trivial⟩ ?_
  refine vc_ifs rfl ?_ ?_
  · intro hc5
    try simp only [decide_eq_true_eq, decide_eq_false_iff_not, Bool.not_eq_true', Bool.not_eq_false', Bool.not_eq_true, Bool.not_eq_false, Int.not_lt, Int.not_le, Nat.not_lt, Nat.not_le, Bool.not_true, Bool.not_false, Bool.true_eq_false, Bool.false_eq_true] at hc5
    refine vc_seq ?_
    refine vc_region ?_
    refine vc_y rfl rfl (y_as rfl) ?_
    refine vc_end ?_
    refine vq_then ?_
    refine vc_keep [(2, _)] ⟨rfl, trivial⟩ ?_
    refine vc_ret ?_
    refine vq_then_ret ?_
    refine vq_ret1 st (.inl rfl) Tryd.results15 (.tmp rfl) ?_
    refine ⟨_, rfl, ?_⟩
    refine ⟨?_, rfl⟩
    unfold lvlO
    rw [if_neg (by simpa using hc5)]
  · intro hc5
    try simp only [decide_eq_true_eq, decide_eq_false_iff_not, Bool.not_eq_true', Bool.not_eq_false', Bool.not_eq_true, Bool.not_eq_false, Int.not_lt, Int.not_le, Nat.not_lt, Nat.not_le, Bool.not_true, Bool.not_false, Bool.true_eq_false, Bool.false_eq_true] at hc5
    have hk : 0 < k ∧ k < 19 := by simpa [knownOp] using hc5
    obtain ⟨m, rfl⟩ : ∃ m : Nat, k = (m : Int) := ⟨k.toNat, by omega⟩
    refine vc_code_skip ?_
    refine vq_then ?_
    refine vc_keep [(0, _)] ⟨rfl, trivial⟩ ?_
    refine vc_seq ?_
    refine vc_region ?_
    refine vc_y rfl rfl (y_mv rfl) ?_
    refine vc_y rfl rfl (y_iaa (k := m) rfl rfl Tryd.underlying85 Tryd.sizeOf84 rfl (by omega)) ?_
    refine vc_y rfl rfl ((by first | exact y_faz (k := 1) rfl Tryd.underlying84 rfl rfl Tryd.sizeOf3 rfl | exact y_fa (k := 1) rfl Tryd.underlying84 rfl rfl Tryd.sizeOf3 rfl)) ?_
    refine vc_y rfl rfl ((by first | exact y_ldc rfl Tryd.isAgg3 (by have h := (hs m (by omega)).2; rw [Nat.zero_add]; exact h) | exact y_ld st 0 rfl Tryd.isAgg3 rfl rfl)) ?_
    refine vc_y rfl rfl (y_as rfl) ?_
    refine vc_end ?_
    refine vq_then ?_
    refine vc_keep [(2, _)] ⟨rfl, trivial⟩ ?_
    refine vc_ret ?_
    refine vq_ret1 st (.inl rfl) Tryd.results15 (.tmp rfl) ?_
    refine ⟨_, rfl, ?_⟩
    refine ⟨?_, rfl⟩
    unfold lvlO
    rw [if_pos (by simpa using hc5)]
    rfl

/-- no operator of two below 'j' has the sign -/
def noOp (s : List UInt8) (j : Nat) : Prop := ∀ k, k < j → (twoOp (k : Int) && decide (sgn k = s)) = false
theorem findO_at {s : List UInt8} {j : Nat} (hj : j < 19) (h : noOp s j) (h2 : twoOp (j : Int) = true) (h3 : sgn j = s) : findO s = some j := by
  unfold findO
  rw [List.find?_eq_some_iff_append]
  refine ⟨by simp [h2, h3], List.range j, (List.range' (j + 1) (18 - j)), ?_, fun k hk => (by have := h k (by simpa using hk); show (!(twoOp (k : Int) && decide (sgn k = s))) = true; rw [this]; rfl)⟩
  rw [List.range_eq_range', List.range_eq_range', show 19 = j + (19 - j) by omega, ← List.range'_append_1]
  rw [show 19 - j = (18 - j) + 1 by omega, List.range'_succ]
  simp
theorem findO_no {s : List UInt8} (h : noOp s 19) : findO s = none := by
  unfold findO
  rw [List.find?_eq_none]
  intro k hk
  have := h k (by simpa using hk)
  show ¬ (twoOp (k : Int) && decide (sgn k = s)) = true
  rw [this]; simp
theorem noOp_step {s : List UInt8} {j : Nat} (h : noOp s j) (h2 : (twoOp (j : Int) && decide (sgn j = s)) = false) : noOp s (j + 1) := fun k hk => by
  rcases Nat.lt_or_ge k j with h1 | h1
  · exact h k h1
  · obtain rfl : k = j := by omega
    exact h2

theorem find_any (s : List UInt8) (w : World) (hs : SigAt 0 w) : Ret Tryd.prog 59 [str s] w fun v w' => v = .tuple [.int .u8 (((findO s).getD 0 : Nat) : Int), .bool (findO s).isSome].toArray ∧ w' = w := by
  refine ret_of [_] Tryd.func59 rfl Tryd.ntmps59 rfl ?_
  have st := St.init w []
  obtain ⟨w0, rfl⟩ : ∃ w0, w0 = w := ⟨_, rfl⟩
  refine vc_seq ?_
  refine vc_region ?_
  refine vc_y rfl rfl (y_as rfl) ?_
  refine vc_y rfl rfl (y_as rfl) ?_
  refine vc_end ?_
  refine vq_then ?_
  refine vc_keep [(0, _)] ⟨rfl, trivial⟩ ?_
  refine vc_seq ?_
  refine vc_seq ?_
  refine vc_region ?_
  refine vc_y rfl rfl (y_mv rfl) ?_
  refine vc_end ?_
  refine vq_then ?_
  refine vc_keep [(0, _), (5, _)] ⟨rfl, rfl, trivial⟩ ?_
  refine vc_block ?_
  refine vc_loop (w0 := w0) (M := []) (fun (j : Nat) => [(0, str s), (5, .int .u8 (j : Int))]) (fun _ => []) (fun j w' => j ≤ 19 ∧ noOp s j ∧ w' = w0) (fun j => 19 - j) 0 ⟨rfl, rfl, trivial⟩ st ⟨by simp, fun k hk => by omega, rfl⟩ ?_
  clear st
  rintro j w ⟨hj, hno, rfl⟩ st
  refine vc_seq ?_
  refine vc_region ?_
  refine vc_y rfl rfl (y_lss rfl rfl) ?_
  refine vc_end ?_
  refine vq_then ?_
  refine vc_keep [(0, _), (5, _), (6, _)] ⟨rfl, rfl, rfl, trivial⟩ ?_
  refine vc_seq ?_
  refine vc_ifs rfl ?_ ?_
  · intro hc6
    try simp only [decide_eq_true_eq, decide_eq_false_iff_not, Bool.not_eq_true', Bool.not_eq_false', Bool.not_eq_true, Bool.not_eq_false, Int.not_lt, Int.not_le, Nat.not_lt, Nat.not_le, Bool.not_true, Bool.not_false, Bool.true_eq_false, Bool.false_eq_true] at hc6
    refine vc_code_skip ?_
    refine vq_then ?_
    refine vc_keep [(0, _), (5, _)] ⟨rfl, rfl, trivial⟩ ?_
    refine vc_seq ?_
    refine vc_block ?_
    refine vc_seq ?_
    refine vc_region ?_
    refine vc_y rfl rfl (y_mv rfl) ?_
    refine vc_y rfl rfl (y_as rfl) ?_
    refine vc_end ?_
    refine vq_then ?_
    refine vc_keep [(0, _), (4, _), (5, _)] ⟨rfl, rfl, rfl, trivial⟩ ?_
    refine vc_seq ?_
    refine vc_region ?_
    refine vc_y rfl rfl (y_mv rfl) ?_
    refine vc_e (e_call [_] rfl rfl Tryd.call13 rfl (two_any _ _) ?_)
    rintro _ _ ⟨rfl, rfl⟩
    refine vc_e (e_mvb rfl rfl rfl ?_ ?_)
    · intro hg10
      try simp only [decide_eq_true_eq, decide_eq_false_iff_not, Bool.not_eq_true', Bool.not_eq_false', Bool.not_eq_true, Bool.not_eq_false, Int.not_lt, Int.not_le, Nat.not_lt, Nat.not_le, Bool.not_true, Bool.not_false, Bool.true_eq_false, Bool.false_eq_true] at hg10
      refine vc_y rfl rfl (y_mv rfl) ?_
      refine vc_y rfl rfl (y_iaa (k := j) rfl rfl Tryd.underlying85 Tryd.sizeOf84 rfl (by omega)) ?_
      refine vc_y rfl rfl (y_fa0 rfl Tryd.underlying84 rfl rfl Tryd.sizeOf9 rfl) ?_
      refine vc_y rfl rfl ((by first | exact y_ldc rfl Tryd.isAgg9 (by have h := (hs j (by omega)).1; rw [Nat.zero_add]; exact h) | exact y_ld st 0 rfl Tryd.isAgg9 rfl rfl)) ?_
      refine vc_y rfl rfl (y_mv rfl) ?_
      refine vc_y rfl rfl (y_eqs rfl rfl) ?_
      refine vc_y rfl rfl (y_pickt rfl rfl) ?_
      refine vc_end ?_
      refine vq_then ?_
      refine vc_keep [(0, _), (4, _), (5, _), (17, _)] ⟨rfl, rfl, rfl, rfl, trivial⟩ ?_
      refine vc_ifs rfl ?_ ?_
      · intro hc17
        try simp only [decide_eq_true_eq, decide_eq_false_iff_not, Bool.not_eq_true', Bool.not_eq_false', Bool.not_eq_true, Bool.not_eq_false, Int.not_lt, Int.not_le, Nat.not_lt, Nat.not_le, Bool.not_true, Bool.not_false, Bool.true_eq_false, Bool.false_eq_true] at hc17
        refine vc_seq ?_
        refine vc_region ?_
        refine vc_y rfl rfl (y_mv rfl) ?_
        refine vc_y rfl rfl (y_as rfl) ?_
        refine vc_y rfl rfl (y_as rfl) ?_
        refine vc_end ?_
        refine vq_then ?_
        refine vc_keep [(2, _), (3, _)] ⟨rfl, rfl, trivial⟩ ?_
        refine vc_ret ?_
        refine vq_block_ret ?_
        refine vq_then_ret ?_
        refine vq_then_ret ?_
        refine vq_block_ret ?_
        refine vq_then_ret ?_
        refine vq_ret2 st (.inl rfl) Tryd.results59 (.tmp rfl) (.tmp rfl) ?_
        refine ⟨_, rfl, ?_⟩
        have he : findO s = some j := findO_at (by omega) hno (by simp_all) (by simp_all)
        rw [he]
        exact ⟨rfl, rfl⟩
      · intro hc17
        try simp only [decide_eq_true_eq, decide_eq_false_iff_not, Bool.not_eq_true', Bool.not_eq_false', Bool.not_eq_true, Bool.not_eq_false, Int.not_lt, Int.not_le, Nat.not_lt, Nat.not_le, Bool.not_true, Bool.not_false, Bool.true_eq_false, Bool.false_eq_true] at hc17
        refine vc_code_skip ?_
        refine vq_block ?_
        refine vq_then ?_
        refine vc_keep [(0, _), (5, _)] ⟨rfl, rfl, trivial⟩ ?_
        refine vc_region ?_
        refine vc_y rfl rfl (y_addk rfl rfl (by rw [wrap_u8]; omega : _ = ((j + 1 : Nat) : Int))) ?_
        refine vc_y rfl rfl (y_mv rfl) ?_
        refine vc_end ?_
        refine vq_again (j + 1)  ⟨rfl, rfl, trivial⟩ st ?_ ?_
        · exact ⟨by omega, noOp_step hno (by simp_all), rfl⟩
        · omega
    · intro hg10
      try simp only [decide_eq_true_eq, decide_eq_false_iff_not, Bool.not_eq_true', Bool.not_eq_false', Bool.not_eq_true, Bool.not_eq_false, Int.not_lt, Int.not_le, Nat.not_lt, Nat.not_le, Bool.not_true, Bool.not_false, Bool.true_eq_false, Bool.false_eq_true] at hg10
      refine vc_e (e_skip rfl rfl ?_)
      refine vc_e (e_skip rfl rfl ?_)
      refine vc_e (e_skip rfl rfl ?_)
      refine vc_e (e_skip rfl rfl ?_)
      refine vc_e (e_skip rfl rfl ?_)
      refine vc_e (e_skip rfl rfl ?_)
      refine vc_y rfl rfl (y_pickf rfl rfl) ?_
      refine vc_end ?_
      refine vq_then ?_
      refine vc_keep [(0, _), (4, _), (5, _), (17, _)] ⟨rfl, rfl, rfl, rfl, trivial⟩ ?_
      refine vc_iff rfl ?_
      refine vc_code_skip ?_
      refine vq_block ?_
      refine vq_then ?_
      refine vc_keep [(0, _), (5, _)] ⟨rfl, rfl, trivial⟩ ?_
      refine vc_region ?_
      refine vc_y rfl rfl (y_addk rfl rfl (by rw [wrap_u8]; omega : _ = ((j + 1 : Nat) : Int))) ?_
      refine vc_y rfl rfl (y_mv rfl) ?_
      refine vc_end ?_
      refine vq_again (j + 1)  ⟨rfl, rfl, trivial⟩ st ?_ ?_
      · exact ⟨by omega, noOp_step hno (by simp_all), rfl⟩
      · omega
  · intro hc6
    try simp only [decide_eq_true_eq, decide_eq_false_iff_not, Bool.not_eq_true', Bool.not_eq_false', Bool.not_eq_true, Bool.not_eq_false, Int.not_lt, Int.not_le, Nat.not_lt, Nat.not_le, Bool.not_true, Bool.not_false, Bool.true_eq_false, Bool.false_eq_true] at hc6
    refine vc_exit ?_
    refine vq_then_exit ?_
    refine vq_then_exit ?_
    refine vq_block_exit ?_
    refine vq_then ?_
    refine vc_keep [] trivial ?_
    refine vc_seq ?_
    refine vc_region ?_
    refine vc_y rfl rfl (y_as rfl) ?_
    refine vc_y rfl rfl (y_as rfl) ?_
    refine vc_end ?_
    refine vq_then ?_
    refine vc_keep [(2, _), (3, _)] ⟨rfl, rfl, trivial⟩ ?_
    refine vc_ret ?_
    refine vq_ret2 st (.inl rfl) Tryd.results59 (.tmp rfl) (.tmp rfl) ?_
    refine ⟨_, rfl, ?_⟩
    obtain rfl : j = 19 := by omega
    have he : findO s = none := findO_no hno
    rw [he]
    exact ⟨rfl, rfl⟩

end Go.Proofs.YtggnfanphcaamaaDoor


namespace Go.Proofs.YtggnfanphcaamaaDoor
open Go.RowKit Sx LexS ParS
set_option linter.unusedVariables false
set_option linter.unusedSimpArgs false

theorem phere_any (c : PCtx) (r : List Tok) (hr : r <:+ c.ts) (w : World) (hC : PCok c w) (hP : PAt c r w) : Ret Tryd.prog 58 [.pointer (some ⟨c.pb, 0, none⟩)] w fun v w' => v = .agg (tkL (here r)).toArray ∧ Chg [] w w' := by
  obtain ⟨pb, n0, oa, cap, ts, e, TT, R, g⟩ := c
  dsimp only [PAt, pcell] at hr hP ⊢
  refine ret_of [_] Tryd.func58 rfl Tryd.ntmps58 rfl ?_
  
  obtain ⟨w0, rfl⟩ : ∃ w0, w0 = w := ⟨_, rfl⟩
  have st := St.of1 [] hP
  refine vc_seq ?_
  refine vc_region ?_
  refine vc_e (e_al (l := [_, _, _, _]) st rfl rfl Tryd.zeroValue53 rfl ?_)
  intro b2 w hb2 st
  refine vc_end ?_
  refine vq_then ?_
  refine vc_keep [(0, _), (2, _)] ⟨rfl, rfl, trivial⟩ ?_
  refine vc_seq ?_
  refine vc_seq ?_
  refine vc_draw Tryd.mixed [(0, true), (1, true), (2, true), (3, true), (4, true), (5, true), (6, true), (7, true), (8, true), (9, true)] (fun w => St _ _ _ w) st (by kernel_rfl) (by repeat (first | exact okQ_body | refine okQ_then ?_ | refine okQ_block ?_)) rfl (by kernel_rfl) ?_
  intro w cd; replace st := st.call0 cd; clear cd
  have hS := st
  refine vp_take rfl rfl rfl hS (fun w st => y_mv rfl) ?_
  refine vp_take rfl rfl rfl hS (fun w st => y_nck rfl) ?_
  refine vp_take rfl rfl rfl hS (fun w st => (by first | exact y_faz (k := 1) rfl Tryd.underlying68 rfl rfl Tryd.sizeOf3 rfl | exact y_fa (k := 1) rfl Tryd.underlying68 rfl rfl Tryd.sizeOf3 rfl)) ?_
  refine vp_take rfl rfl rfl hS (fun w st => (by first | exact y_ld st 0 rfl Tryd.isAgg3 rfl rfl | exact y_ld st 1 rfl Tryd.isAgg3 rfl rfl | exact y_ld st 2 rfl Tryd.isAgg3 rfl rfl)) ?_
  refine vp_take rfl rfl rfl hS (fun w st => y_mv rfl) ?_
  refine vp_take rfl rfl rfl hS (fun w st => y_nck rfl) ?_
  refine vp_take rfl rfl rfl hS (fun w st => y_fa0 rfl Tryd.underlying68 rfl rfl Tryd.sizeOf47 rfl) ?_
  refine vp_take rfl rfl rfl hS (fun w st => (by first | exact y_ld st 0 rfl Tryd.isAgg47 rfl rfl | exact y_ld st 1 rfl Tryd.isAgg47 rfl rfl | exact y_ld st 2 rfl Tryd.isAgg47 rfl rfl)) ?_
  refine vp_take rfl rfl rfl hS (fun w st => y_lensl rfl Tryd.underlying47) ?_
  refine vp_take rfl rfl rfl hS (fun w st => y_lss rfl rfl) ?_
  refine vp_end ?_
  refine vq_then ?_
  refine vc_keep [(0, _), (2, _), (12, _)] ⟨rfl, rfl, rfl, trivial⟩ ?_
  refine vc_ifs rfl ?_ ?_
  · intro hc12
    try simp only [decide_eq_true_eq, decide_eq_false_iff_not, Bool.not_eq_true', Bool.not_eq_false', Bool.not_eq_true, Bool.not_eq_false, Int.not_lt, Int.not_le, Nat.not_lt, Nat.not_le, Bool.not_true, Bool.not_false, Bool.true_eq_false, Bool.false_eq_true] at hc12
    have hne : r ≠ [] := by rintro rfl; simp at hc12
    obtain ⟨tb, to, hoa, hc⟩ := hC.tok hr hne
    have hlt := (suf_get hr hne).2
    dsimp only at hoa hc hlt
    subst hoa
    refine vc_seq ?_
    refine vc_draw Tryd.mixed [(0, true), (1, true), (2, true), (3, true), (4, true), (5, true), (6, true), (7, true), (8, true), (9, true), (10, false)] (fun w => St _ _ [.blk pb (.cells [.slice (some ⟨tb, to, none⟩) ts.length cap, .int .i64 ((ts.length - r.length : Nat) : Int), .int .i64 (e : Int)].toArray TT (0, 0))] w) (by first | exact st | exact st.drop (by repeat (first | exact List.Sublist.slnil | apply List.Sublist.cons_cons | apply List.Sublist.cons))) (by kernel_rfl) (by repeat (first | exact okQ_body | refine okQ_then ?_ | refine okQ_block ?_)) rfl (by kernel_rfl) ?_
    intro w cd; replace st := st.call0 cd; clear cd
    have hS : St _ _ [.blk pb (.cells [.slice (some ⟨tb, to, none⟩) ts.length cap, .int .i64 ((ts.length - r.length : Nat) : Int), .int .i64 (e : Int)].toArray TT (0, 0))] w := (by first | exact st | exact st.drop (by repeat (first | exact List.Sublist.slnil | apply List.Sublist.cons_cons | apply List.Sublist.cons)))
    refine vp_take rfl rfl rfl hS (fun w st => y_mv rfl) ?_
    refine vp_take rfl rfl rfl hS (fun w st => y_nck rfl) ?_
    refine vp_take rfl rfl rfl hS (fun w st => y_fa0 rfl Tryd.underlying68 rfl rfl Tryd.sizeOf47 rfl) ?_
    refine vp_take rfl rfl rfl hS (fun w st => (by first | exact y_ld st 0 rfl Tryd.isAgg47 rfl rfl | exact y_ld st 1 rfl Tryd.isAgg47 rfl rfl | exact y_ld st 2 rfl Tryd.isAgg47 rfl rfl)) ?_
    refine vp_take rfl rfl rfl hS (fun w st => y_mv rfl) ?_
    refine vp_take rfl rfl rfl hS (fun w st => y_nck rfl) ?_
    refine vp_take rfl rfl rfl hS (fun w st => (by first | exact y_faz (k := 1) rfl Tryd.underlying68 rfl rfl Tryd.sizeOf3 rfl | exact y_fa (k := 1) rfl Tryd.underlying68 rfl rfl Tryd.sizeOf3 rfl)) ?_
    refine vp_take rfl rfl rfl hS (fun w st => (by first | exact y_ld st 0 rfl Tryd.isAgg3 rfl rfl | exact y_ld st 1 rfl Tryd.isAgg3 rfl rfl | exact y_ld st 2 rfl Tryd.isAgg3 rfl rfl)) ?_
    refine vp_take rfl rfl rfl hS (fun w st => (by first | exact y_ia0 (k := (ts.length - r.length)) rfl rfl Tryd.underlying47 Tryd.sizeOf53 rfl (hlt) | exact y_ia (k := (ts.length - r.length)) rfl rfl Tryd.underlying47 Tryd.sizeOf53 rfl (hlt))) ?_
    refine vp_take rfl rfl rfl hS (fun w st => (by first | exact y_ldca (tkL (here r)) rfl Tryd.isAgg53 Tryd.sizeOf53 rfl (fun i v hi => st.chg.cell (hc i v hi) (by simp)) | exact y_lda (vs := [_, _, _, _]) st 0 rfl Tryd.isAgg53 Tryd.sizeOf53 rfl rfl | exact y_lda (vs := [_, _, _, _]) st 1 rfl Tryd.isAgg53 Tryd.sizeOf53 rfl rfl | exact y_lda (vs := [_, _, _, _]) st 2 rfl Tryd.isAgg53 Tryd.sizeOf53 rfl rfl)) ?_
    first
    | refine vp_do rfl (e_sts (vs := [_, _, _, _]) st 0 rfl rfl rfl rfl rfl Tryd.sizeOf53 rfl rfl (by first | (right; assumption) | (left; simp)) ?_)
    | refine vp_do rfl (e_sts (vs := [_, _, _, _]) st 1 rfl rfl rfl rfl rfl Tryd.sizeOf53 rfl rfl (by first | (right; assumption) | (left; simp)) ?_)
    | refine vp_do rfl (e_sts (vs := [_, _, _, _]) st 2 rfl rfl rfl rfl rfl Tryd.sizeOf53 rfl rfl (by first | (right; assumption) | (left; simp)) ?_)
    intro w st; dsimp only [setNth, wr] at st
    refine vp_next (by first | exact st | exact st.drop (by repeat (first | exact List.Sublist.slnil | apply List.Sublist.cons_cons | apply List.Sublist.cons))) ?_; intro hS
    refine vp_end ?_
    refine vq_then ?_
    refine vc_keep [(2, _)] ⟨rfl, trivial⟩ ?_
    refine vc_ret ?_
    refine vq_then_ret ?_
    refine vq_ret1 st (.inl rfl) Tryd.results58 (by first | exact .cell 0 rfl rfl Tryd.isAgg53 Tryd.sizeOf53 | exact .cell 1 rfl rfl Tryd.isAgg53 Tryd.sizeOf53 | exact .cell 2 rfl rfl Tryd.isAgg53 Tryd.sizeOf53) ?_
    refine ⟨_, rfl, ?_⟩
    exact ⟨rfl, st.chg⟩
  · intro hc12
    try simp only [decide_eq_true_eq, decide_eq_false_iff_not, Bool.not_eq_true', Bool.not_eq_false', Bool.not_eq_true, Bool.not_eq_false, Int.not_lt, Int.not_le, Nat.not_lt, Nat.not_le, Bool.not_true, Bool.not_false, Bool.true_eq_false, Bool.false_eq_true] at hc12
    have h0 : r.length = 0 := by have := suf_len hr; omega
    refine vc_code_skip ?_
    refine vq_then ?_
    refine vc_keep [(2, _)] ⟨rfl, trivial⟩ ?_
    refine vc_seq ?_
    refine vc_region ?_
    refine vc_y rfl rfl (y_bld (.agg #[_, _, _, _]) [] rfl (fun w => by simp [Instr.build, go_sem] <;> repeat' constructor)) ?_
    first
    | refine vc_e (e_sts (vs := [_, _, _, _]) st 0 rfl rfl rfl rfl rfl Tryd.sizeOf53 rfl rfl (by first | (right; assumption) | (left; simp)) ?_)
    | refine vc_e (e_sts (vs := [_, _, _, _]) st 1 rfl rfl rfl rfl rfl Tryd.sizeOf53 rfl rfl (by first | (right; assumption) | (left; simp)) ?_)
    | refine vc_e (e_sts (vs := [_, _, _, _]) st 2 rfl rfl rfl rfl rfl Tryd.sizeOf53 rfl rfl (by first | (right; assumption) | (left; simp)) ?_)
    intro w st; dsimp only [setNth, wr] at st
    refine vc_end ?_
    refine vq_then ?_
    refine vc_keep [(2, _)] ⟨rfl, trivial⟩ ?_
    refine vc_ret ?_
    refine vq_ret1 st (.inl rfl) Tryd.results58 (by first | exact .cell 0 rfl rfl Tryd.isAgg53 Tryd.sizeOf53 | exact .cell 1 rfl rfl Tryd.isAgg53 Tryd.sizeOf53 | exact .cell 2 rfl rfl Tryd.isAgg53 Tryd.sizeOf53) ?_
    refine ⟨_, rfl, ?_⟩
    rw [here_nil h0]; exact ⟨rfl, st.chg⟩

theorem pat_any (c : PCtx) (r : List Tok) (hr : r <:+ c.ts) (w : World) (hC : PCok c w) (hP : PAt c r w) : Ret Tryd.prog 61 [.pointer (some ⟨c.pb, 0, none⟩)] w fun v w' => v = .int .i64 (atT c.e r : Int) ∧ Chg [] w w' := by
  obtain ⟨pb, n0, oa, cap, ts, e, TT, R, g⟩ := c
  dsimp only [PAt, pcell] at hr hP ⊢
  refine ret_of [_] Tryd.func61 rfl Tryd.ntmps61 rfl ?_
  
  obtain ⟨w0, rfl⟩ : ∃ w0, w0 = w := ⟨_, rfl⟩
  have st := St.of1 [] hP
  refine vc_seq ?_
  refine vc_region ?_
  refine vc_y rfl rfl (y_as rfl) ?_
  refine vc_end ?_
  refine vq_then ?_
  refine vc_keep [(0, _)] ⟨rfl, trivial⟩ ?_
  refine vc_seq ?_
  refine vc_seq ?_
  refine vc_draw Tryd.mixed [(0, true), (1, true), (2, true), (3, true), (4, true), (5, true), (6, true), (7, true), (8, true), (9, true)] (fun w => St _ _ _ w) st (by kernel_rfl) (by repeat (first | exact okQ_body | refine okQ_then ?_ | refine okQ_block ?_)) rfl (by kernel_rfl) ?_
  intro w cd; replace st := st.call0 cd; clear cd
  have hS := st
  refine vp_take rfl rfl rfl hS (fun w st => y_mv rfl) ?_
  refine vp_take rfl rfl rfl hS (fun w st => y_nck rfl) ?_
  refine vp_take rfl rfl rfl hS (fun w st => (by first | exact y_faz (k := 1) rfl Tryd.underlying68 rfl rfl Tryd.sizeOf3 rfl | exact y_fa (k := 1) rfl Tryd.underlying68 rfl rfl Tryd.sizeOf3 rfl)) ?_
  refine vp_take rfl rfl rfl hS (fun w st => (by first | exact y_ld st 0 rfl Tryd.isAgg3 rfl rfl | exact y_ld st 1 rfl Tryd.isAgg3 rfl rfl | exact y_ld st 2 rfl Tryd.isAgg3 rfl rfl)) ?_
  refine vp_take rfl rfl rfl hS (fun w st => y_mv rfl) ?_
  refine vp_take rfl rfl rfl hS (fun w st => y_nck rfl) ?_
  refine vp_take rfl rfl rfl hS (fun w st => y_fa0 rfl Tryd.underlying68 rfl rfl Tryd.sizeOf47 rfl) ?_
  refine vp_take rfl rfl rfl hS (fun w st => (by first | exact y_ld st 0 rfl Tryd.isAgg47 rfl rfl | exact y_ld st 1 rfl Tryd.isAgg47 rfl rfl | exact y_ld st 2 rfl Tryd.isAgg47 rfl rfl)) ?_
  refine vp_take rfl rfl rfl hS (fun w st => y_lensl rfl Tryd.underlying47) ?_
  refine vp_take rfl rfl rfl hS (fun w st => y_lss rfl rfl) ?_
  refine vp_end ?_
  refine vq_then ?_
  refine vc_keep [(0, _), (12, _)] ⟨rfl, rfl, trivial⟩ ?_
  refine vc_ifs rfl ?_ ?_
  · intro hc12
    try simp only [decide_eq_true_eq, decide_eq_false_iff_not, Bool.not_eq_true', Bool.not_eq_false', Bool.not_eq_true, Bool.not_eq_false, Int.not_lt, Int.not_le, Nat.not_lt, Nat.not_le, Bool.not_true, Bool.not_false, Bool.true_eq_false, Bool.false_eq_true] at hc12
    have hne : r ≠ [] := by rintro rfl; simp at hc12
    obtain ⟨tb, to, hoa, hc⟩ := hC.tok hr hne
    have hlt := (suf_get hr hne).2
    dsimp only at hoa hc hlt
    subst hoa
    refine vc_seq ?_
    refine vc_draw Tryd.mixed [(0, true), (1, true), (2, true), (3, true), (4, true), (5, true), (6, true), (7, true), (8, true), (9, true), (10, true), (11, true)] (fun w => St _ _ _ w) st (by kernel_rfl) (by repeat (first | exact okQ_body | refine okQ_then ?_ | refine okQ_block ?_)) rfl (by kernel_rfl) ?_
    intro w cd; replace st := st.call0 cd; clear cd
    have hS := st
    refine vp_take rfl rfl rfl hS (fun w st => y_mv rfl) ?_
    refine vp_take rfl rfl rfl hS (fun w st => y_nck rfl) ?_
    refine vp_take rfl rfl rfl hS (fun w st => y_fa0 rfl Tryd.underlying68 rfl rfl Tryd.sizeOf47 rfl) ?_
    refine vp_take rfl rfl rfl hS (fun w st => (by first | exact y_ld st 0 rfl Tryd.isAgg47 rfl rfl | exact y_ld st 1 rfl Tryd.isAgg47 rfl rfl | exact y_ld st 2 rfl Tryd.isAgg47 rfl rfl)) ?_
    refine vp_take rfl rfl rfl hS (fun w st => y_mv rfl) ?_
    refine vp_take rfl rfl rfl hS (fun w st => y_nck rfl) ?_
    refine vp_take rfl rfl rfl hS (fun w st => (by first | exact y_faz (k := 1) rfl Tryd.underlying68 rfl rfl Tryd.sizeOf3 rfl | exact y_fa (k := 1) rfl Tryd.underlying68 rfl rfl Tryd.sizeOf3 rfl)) ?_
    refine vp_take rfl rfl rfl hS (fun w st => (by first | exact y_ld st 0 rfl Tryd.isAgg3 rfl rfl | exact y_ld st 1 rfl Tryd.isAgg3 rfl rfl | exact y_ld st 2 rfl Tryd.isAgg3 rfl rfl)) ?_
    refine vp_take rfl rfl rfl hS (fun w st => (by first | exact y_ia0 (k := (ts.length - r.length)) rfl rfl Tryd.underlying47 Tryd.sizeOf53 rfl (hlt) | exact y_ia (k := (ts.length - r.length)) rfl rfl Tryd.underlying47 Tryd.sizeOf53 rfl (hlt))) ?_
    refine vp_take rfl rfl rfl hS (fun w st => (by first | exact y_faz (k := 3) rfl Tryd.underlying53 rfl rfl Tryd.sizeOf3 rfl | exact y_fa (k := 3) rfl Tryd.underlying53 rfl rfl Tryd.sizeOf3 rfl)) ?_
    refine vp_take rfl rfl rfl hS (fun w st => (by first | exact y_ldc rfl Tryd.isAgg3 (st.chg.cell (hc 3 _ rfl) (by simp)) | exact y_ld st 0 rfl Tryd.isAgg3 rfl rfl | exact y_ld st 1 rfl Tryd.isAgg3 rfl rfl | exact y_ld st 2 rfl Tryd.isAgg3 rfl rfl)) ?_
    refine vp_take rfl rfl rfl hS (fun w st => y_as rfl) ?_
    refine vp_end ?_
    refine vq_then ?_
    refine vc_keep [(2, _)] ⟨rfl, trivial⟩ ?_
    refine vc_ret ?_
    refine vq_then_ret ?_
    refine vq_ret1 st (.inl rfl) Tryd.results61 (.tmp rfl) ?_
    refine ⟨_, rfl, ?_⟩
    rw [atT_cons hne]; exact ⟨rfl, st.chg⟩
  · intro hc12
    try simp only [decide_eq_true_eq, decide_eq_false_iff_not, Bool.not_eq_true', Bool.not_eq_false', Bool.not_eq_true, Bool.not_eq_false, Int.not_lt, Int.not_le, Nat.not_lt, Nat.not_le, Bool.not_true, Bool.not_false, Bool.true_eq_false, Bool.false_eq_true] at hc12
    have h0 : r.length = 0 := by have := suf_len hr; omega
    refine vc_code_skip ?_
    refine vq_then ?_
    refine vc_keep [(0, _)] ⟨rfl, trivial⟩ ?_
    refine vc_seq ?_
    refine vc_region ?_
    refine vc_y rfl rfl (y_mv rfl) ?_
    refine vc_y rfl rfl (y_nck rfl) ?_
    refine vc_y rfl rfl ((by first | exact y_faz (k := 2) rfl Tryd.underlying68 rfl rfl Tryd.sizeOf3 rfl | exact y_fa (k := 2) rfl Tryd.underlying68 rfl rfl Tryd.sizeOf3 rfl)) ?_
    refine vc_y rfl rfl ((by first | exact y_ld st 0 rfl Tryd.isAgg3 rfl rfl | exact y_ld st 1 rfl Tryd.isAgg3 rfl rfl | exact y_ld st 2 rfl Tryd.isAgg3 rfl rfl)) ?_
    refine vc_y rfl rfl (y_as rfl) ?_
    refine vc_end ?_
    refine vq_then ?_
    refine vc_keep [(2, _)] ⟨rfl, trivial⟩ ?_
    refine vc_ret ?_
    refine vq_ret1 st (.inl rfl) Tryd.results61 (.tmp rfl) ?_
    refine ⟨_, rfl, ?_⟩
    rw [atT_nil h0]; exact ⟨rfl, st.chg⟩

theorem pis_any (c : PCtx) (s : List UInt8) (r : List Tok) (hr : r <:+ c.ts) (w : World) (hC : PCok c w) (hP : PAt c r w) : Ret Tryd.prog 71 [.pointer (some ⟨c.pb, 0, none⟩), str s] w fun v w' => v = .bool (isT s r) ∧ Chg [] w w' := by
  refine ret_of [_, _] Tryd.func71 rfl Tryd.ntmps71 rfl ?_
  have st := St.init w []
  obtain ⟨w0, rfl⟩ : ∃ w0, w0 = w := ⟨_, rfl⟩
  refine vc_seq ?_
  refine vc_region ?_
  refine vc_y rfl rfl (y_as rfl) ?_
  refine vc_end ?_
  refine vq_then ?_
  refine vc_keep [(0, _), (1, _)] ⟨rfl, rfl, trivial⟩ ?_
  refine vc_seq ?_
  refine vc_region ?_
  refine vc_y rfl rfl (y_mv rfl) ?_
  refine vc_e (e_call [_] rfl rfl Tryd.call58 rfl (phere_any c r hr _ hC hP) ?_)
  rintro _ w ⟨rfl, cw⟩
  replace st := st.call0 cw
  refine vc_e (e_al (l := [_, _, _, _]) st rfl rfl Tryd.zeroValue53 rfl ?_)
  intro b5 w hb5 st
  first
  | refine vc_e (e_sts (vs := [_, _, _, _]) st 0 rfl rfl rfl rfl rfl Tryd.sizeOf53 rfl rfl (by first | (right; assumption) | (left; simp)) ?_)
  | refine vc_e (e_sts (vs := [_, _, _, _]) st 1 rfl rfl rfl rfl rfl Tryd.sizeOf53 rfl rfl (by first | (right; assumption) | (left; simp)) ?_)
  intro w st; dsimp only [setNth, wr] at st
  refine vc_end ?_
  refine vq_then ?_
  refine vc_keep [(1, _), (5, _)] ⟨rfl, rfl, trivial⟩ ?_
  refine vc_seq ?_
  refine vc_region ?_
  refine vc_y rfl rfl ((by first | exact y_faz (k := 1) rfl Tryd.underlying53 rfl rfl Tryd.sizeOf9 rfl | exact y_fa (k := 1) rfl Tryd.underlying53 rfl rfl Tryd.sizeOf9 rfl)) ?_
  refine vc_y rfl rfl ((by first | exact y_ld st 0 rfl Tryd.isAgg9 rfl rfl | exact y_ld st 1 rfl Tryd.isAgg9 rfl rfl)) ?_
  refine vc_y rfl rfl (y_mv rfl) ?_
  refine vc_y rfl rfl (y_eqs rfl rfl) ?_
  refine vc_e (e_mvb rfl rfl rfl ?_ ?_)
  · intro hg12
    try simp only [decide_eq_true_eq, decide_eq_false_iff_not, Bool.not_eq_true', Bool.not_eq_false', Bool.not_eq_true, Bool.not_eq_false, Int.not_lt, Int.not_le, Nat.not_lt, Nat.not_le, Bool.not_true, Bool.not_false, Bool.true_eq_false, Bool.false_eq_true] at hg12
    refine vc_y rfl rfl (y_fa0 rfl Tryd.underlying53 rfl rfl Tryd.sizeOf51 rfl) ?_
    refine vc_y rfl rfl ((by first | exact y_ld st 0 rfl Tryd.isAgg51 rfl rfl | exact y_ld st 1 rfl Tryd.isAgg51 rfl rfl)) ?_
    refine vc_y rfl rfl (y_eqi rfl rfl) ?_
    refine vc_e (e_mvb rfl rfl rfl ?_ ?_)
    · intro hg16
      try simp only [decide_eq_true_eq, decide_eq_false_iff_not, Bool.not_eq_true', Bool.not_eq_false', Bool.not_eq_true, Bool.not_eq_false, Int.not_lt, Int.not_le, Nat.not_lt, Nat.not_le, Bool.not_true, Bool.not_false, Bool.true_eq_false, Bool.false_eq_true] at hg16
      refine vc_e (e_skip rfl rfl ?_)
      refine vc_e (e_skip rfl rfl ?_)
      refine vc_e (e_skip rfl rfl ?_)
      refine vc_y rfl rfl (y_pickt rfl rfl) ?_
      refine vc_y rfl rfl (y_pickt rfl rfl) ?_
      refine vc_y rfl rfl (y_as rfl) ?_
      refine vc_end ?_
      refine vq_then ?_
      refine vc_keep [(4, _)] ⟨rfl, trivial⟩ ?_
      refine vc_ret ?_
      refine vq_ret1 st (.inl rfl) Tryd.results71 (.tmp rfl) ?_
      refine ⟨_, rfl, ?_⟩
      have hk2 : ((here r).kind : Int) = 2 ↔ (here r).kind = 2 := by omega
      have hk4 : ((here r).kind : Int) = 4 ↔ (here r).kind = 4 := by omega
      refine ⟨?_, st.chg⟩
      unfold isT
      simp_all
    · intro hg16
      try simp only [decide_eq_true_eq, decide_eq_false_iff_not, Bool.not_eq_true', Bool.not_eq_false', Bool.not_eq_true, Bool.not_eq_false, Int.not_lt, Int.not_le, Nat.not_lt, Nat.not_le, Bool.not_true, Bool.not_false, Bool.true_eq_false, Bool.false_eq_true] at hg16
      refine vc_y rfl rfl (y_fa0 rfl Tryd.underlying53 rfl rfl Tryd.sizeOf51 rfl) ?_
      refine vc_y rfl rfl ((by first | exact y_ld st 0 rfl Tryd.isAgg51 rfl rfl | exact y_ld st 1 rfl Tryd.isAgg51 rfl rfl)) ?_
      refine vc_y rfl rfl (y_eqi rfl rfl) ?_
      refine vc_y rfl rfl (y_pickf rfl rfl) ?_
      refine vc_y rfl rfl (y_pickt rfl rfl) ?_
      refine vc_y rfl rfl (y_as rfl) ?_
      refine vc_end ?_
      refine vq_then ?_
      refine vc_keep [(4, _)] ⟨rfl, trivial⟩ ?_
      refine vc_ret ?_
      refine vq_ret1 st (.inl rfl) Tryd.results71 (.tmp rfl) ?_
      refine ⟨_, rfl, ?_⟩
      have hk2 : ((here r).kind : Int) = 2 ↔ (here r).kind = 2 := by omega
      have hk4 : ((here r).kind : Int) = 4 ↔ (here r).kind = 4 := by omega
      refine ⟨?_, st.chg⟩
      unfold isT
      simp_all
  · intro hg12
    try simp only [decide_eq_true_eq, decide_eq_false_iff_not, Bool.not_eq_true', Bool.not_eq_false', Bool.not_eq_true, Bool.not_eq_false, Int.not_lt, Int.not_le, Nat.not_lt, Nat.not_le, Bool.not_true, Bool.not_false, Bool.true_eq_false, Bool.false_eq_true] at hg12
    refine vc_e (e_skip rfl rfl ?_)
    refine vc_e (e_skip rfl rfl ?_)
    refine vc_e (e_skip rfl rfl ?_)
    refine vc_e (e_skip rfl rfl ?_)
    refine vc_e (e_skip rfl rfl ?_)
    refine vc_e (e_skip rfl rfl ?_)
    refine vc_e (e_skip rfl rfl ?_)
    refine vc_e (e_skip rfl rfl ?_)
    refine vc_y rfl rfl (y_pickf rfl rfl) ?_
    refine vc_y rfl rfl (y_as rfl) ?_
    refine vc_end ?_
    refine vq_then ?_
    refine vc_keep [(4, _)] ⟨rfl, trivial⟩ ?_
    refine vc_ret ?_
    refine vq_ret1 st (.inl rfl) Tryd.results71 (.tmp rfl) ?_
    refine ⟨_, rfl, ?_⟩
    have hk2 : ((here r).kind : Int) = 2 ↔ (here r).kind = 2 := by omega
    have hk4 : ((here r).kind : Int) = 4 ↔ (here r).kind = 4 := by omega
    refine ⟨?_, st.chg⟩
    unfold isT
    simp_all

theorem ptake_any (c : PCtx) (s : List UInt8) (r : List Tok) (hr : r <:+ c.ts) (w : World) (hC : PCok c w) (hP : PAt c r w) : Ret Tryd.prog 67 [.pointer (some ⟨c.pb, 0, none⟩), str s] w fun v w' => v = .bool (isT s r) ∧ PAt c (if isT s r = true then r.tail else r) w' ∧ Chg [c.pb] w w' := by
  refine ret_of [_, _] Tryd.func67 rfl Tryd.ntmps67 rfl ?_
  
  obtain ⟨w0, rfl⟩ : ∃ w0, w0 = w := ⟨_, rfl⟩
  have hP' := hP
  dsimp only [PAt, pcell] at hP
  have st := St.of1 [c.pb] hP
  have h20 := hC.len
  have hl := suf_len hr
  refine vc_seq ?_
  refine vc_region ?_
  refine vc_y rfl rfl (y_as rfl) ?_
  refine vc_end ?_
  refine vq_then ?_
  refine vc_keep [(0, _), (1, _)] ⟨rfl, rfl, trivial⟩ ?_
  refine vc_seq ?_
  refine vc_seq ?_
  refine vc_region ?_
  refine vc_y rfl rfl (y_mv rfl) ?_
  refine vc_y rfl rfl (y_mv rfl) ?_
  refine vc_e (e_call [_, _] rfl rfl Tryd.call71 rfl (pis_any c s r hr _ hC hP') ?_)
  rintro _ w ⟨rfl, cw⟩
  replace st := st.call0 cw
  refine vc_y rfl rfl (y_not rfl) ?_
  refine vc_end ?_
  refine vq_then ?_
  refine vc_keep [(0, _), (8, _)] ⟨rfl, rfl, trivial⟩ ?_
  refine vc_ifs rfl ?_ ?_
  · intro hc8
    try simp only [decide_eq_true_eq, decide_eq_false_iff_not, Bool.not_eq_true', Bool.not_eq_false', Bool.not_eq_true, Bool.not_eq_false, Int.not_lt, Int.not_le, Nat.not_lt, Nat.not_le, Bool.not_true, Bool.not_false, Bool.true_eq_false, Bool.false_eq_true] at hc8
    have hF : isT s r = false := by simpa using hc8
    refine vc_seq ?_
    refine vc_region ?_
    refine vc_y rfl rfl (y_as rfl) ?_
    refine vc_end ?_
    refine vq_then ?_
    refine vc_keep [(4, _)] ⟨rfl, trivial⟩ ?_
    refine vc_ret ?_
    refine vq_then_ret ?_
    refine vq_ret1 st (.inl rfl) Tryd.results67 (.tmp rfl) ?_
    refine ⟨_, rfl, ?_⟩
    rw [hF]
    exact ⟨rfl, st.res (i := 0) rfl, st.chg⟩
  · intro hc8
    try simp only [decide_eq_true_eq, decide_eq_false_iff_not, Bool.not_eq_true', Bool.not_eq_false', Bool.not_eq_true, Bool.not_eq_false, Int.not_lt, Int.not_le, Nat.not_lt, Nat.not_le, Bool.not_true, Bool.not_false, Bool.true_eq_false, Bool.false_eq_true] at hc8
    have hT : isT s r = true := by simpa using hc8
    have ht := tail_lt (isT_ne hT)
    have ht2 : r.tail.length = r.length - 1 := List.length_tail
    refine vc_code_skip ?_
    refine vq_then ?_
    refine vc_keep [(0, _)] ⟨rfl, trivial⟩ ?_
    refine vc_seq ?_
    refine vc_region ?_
    refine vc_y rfl rfl (y_mv rfl) ?_
    refine vc_y rfl rfl (y_nck rfl) ?_
    refine vc_y rfl rfl ((by first | exact y_faz (k := 1) rfl Tryd.underlying68 rfl rfl Tryd.sizeOf3 rfl | exact y_fa (k := 1) rfl Tryd.underlying68 rfl rfl Tryd.sizeOf3 rfl)) ?_
    refine vc_y rfl rfl ((by first | exact y_ld st 0 rfl Tryd.isAgg3 rfl rfl | exact y_ld st 1 rfl Tryd.isAgg3 rfl rfl)) ?_
    refine vc_y rfl rfl (y_add rfl rfl (by omega : _ = ((c.ts.length - r.tail.length : Nat) : Int)) (by omega) (by omega)) ?_
    refine vc_y rfl rfl (y_nck rfl) ?_
    refine vc_y rfl rfl ((by first | exact y_faz (k := 1) rfl Tryd.underlying68 rfl rfl Tryd.sizeOf3 rfl | exact y_fa (k := 1) rfl Tryd.underlying68 rfl rfl Tryd.sizeOf3 rfl)) ?_
    first
    | refine vc_e (e_st st 0 rfl rfl rfl rfl Tryd.sizeOf3 rfl rfl (by first | (right; assumption) | (left; simp)) ?_)
    | refine vc_e (e_st st 1 rfl rfl rfl rfl Tryd.sizeOf3 rfl rfl (by first | (right; assumption) | (left; simp)) ?_)
    intro w st; dsimp only [setNth, wr] at st
    refine vc_end ?_
    refine vq_then ?_
    refine vc_keep [] trivial ?_
    refine vc_seq ?_
    refine vc_region ?_
    refine vc_y rfl rfl (y_as rfl) ?_
    refine vc_end ?_
    refine vq_then ?_
    refine vc_keep [(4, _)] ⟨rfl, trivial⟩ ?_
    refine vc_ret ?_
    refine vq_ret1 st (.inl rfl) Tryd.results67 (.tmp rfl) ?_
    refine ⟨_, rfl, ?_⟩
    rw [hT]
    exact ⟨rfl, st.res (i := 0) rfl, st.chg⟩

theorem pnext_any (c : PCtx) (r : List Tok) (hr : r <:+ c.ts) (hne : r ≠ []) (w : World) (hC : PCok c w) (hP : PAt c r w) : Ret Tryd.prog 60 [.pointer (some ⟨c.pb, 0, none⟩)] w fun v w' => v = .agg (tkL (here r)).toArray ∧ PAt c r.tail w' ∧ Chg [c.pb] w w' := by
  refine ret_of [_] Tryd.func60 rfl Tryd.ntmps60 rfl ?_
  
  obtain ⟨w0, rfl⟩ : ∃ w0, w0 = w := ⟨_, rfl⟩
  have hP' := hP
  dsimp only [PAt, pcell] at hP
  have st := St.of1 [c.pb] hP
  have h20 := hC.len
  have hl := suf_len hr
  have ht := tail_lt hne
  have ht2 : r.tail.length = r.length - 1 := List.length_tail
  replace st := st.call0 (Chg.refl _ _)
  have stP := hP'
  refine vc_seq ?_
  refine vc_region ?_
  refine vc_e (e_al (l := [_, _, _, _]) st rfl rfl Tryd.zeroValue53 rfl ?_)
  intro b2 w hb2 st
  refine vc_end ?_
  refine vq_then ?_
  refine vc_keep [(0, _), (2, _)] ⟨rfl, rfl, trivial⟩ ?_
  refine vc_seq ?_
  refine vc_region ?_
  refine vc_y rfl rfl (y_mv rfl) ?_
  refine vc_e (e_call [_] rfl rfl Tryd.call58 rfl (phere_any c r hr _ (hC.k1 st.chg) (st.res (i := 1) rfl)) ?_)
  rintro _ w ⟨rfl, cw⟩
  replace st := st.call0 cw
  refine vc_e (e_al (l := [_, _, _, _]) st rfl rfl Tryd.zeroValue53 rfl ?_)
  intro b3 w hb3 st
  first
  | refine vc_e (e_sts (vs := [_, _, _, _]) st 0 rfl rfl rfl rfl rfl Tryd.sizeOf53 rfl rfl (by first | (right; assumption) | (left; simp)) ?_)
  | refine vc_e (e_sts (vs := [_, _, _, _]) st 1 rfl rfl rfl rfl rfl Tryd.sizeOf53 rfl rfl (by first | (right; assumption) | (left; simp)) ?_)
  | refine vc_e (e_sts (vs := [_, _, _, _]) st 2 rfl rfl rfl rfl rfl Tryd.sizeOf53 rfl rfl (by first | (right; assumption) | (left; simp)) ?_)
  intro w st; dsimp only [setNth, wr] at st
  refine vc_end ?_
  refine vq_then ?_
  refine vc_keep [(0, _), (2, _), (3, _)] ⟨rfl, rfl, rfl, trivial⟩ ?_
  refine vc_seq ?_
  refine vc_region ?_
  refine vc_y rfl rfl (y_mv rfl) ?_
  refine vc_y rfl rfl (y_nck rfl) ?_
  refine vc_y rfl rfl ((by first | exact y_faz (k := 1) rfl Tryd.underlying68 rfl rfl Tryd.sizeOf3 rfl | exact y_fa (k := 1) rfl Tryd.underlying68 rfl rfl Tryd.sizeOf3 rfl)) ?_
  refine vc_y rfl rfl ((by first | exact y_ld st 0 rfl Tryd.isAgg3 rfl rfl | exact y_ld st 1 rfl Tryd.isAgg3 rfl rfl | exact y_ld st 2 rfl Tryd.isAgg3 rfl rfl)) ?_
  refine vc_y rfl rfl (y_add rfl rfl (by omega : _ = ((c.ts.length - r.tail.length : Nat) : Int)) (by omega) (by omega)) ?_
  refine vc_y rfl rfl (y_nck rfl) ?_
  refine vc_y rfl rfl ((by first | exact y_faz (k := 1) rfl Tryd.underlying68 rfl rfl Tryd.sizeOf3 rfl | exact y_fa (k := 1) rfl Tryd.underlying68 rfl rfl Tryd.sizeOf3 rfl)) ?_
  first
  | refine vc_e (e_st st 0 rfl rfl rfl rfl Tryd.sizeOf3 rfl rfl (by first | (right; assumption) | (left; simp)) ?_)
  | refine vc_e (e_st st 1 rfl rfl rfl rfl Tryd.sizeOf3 rfl rfl (by first | (right; assumption) | (left; simp)) ?_)
  | refine vc_e (e_st st 2 rfl rfl rfl rfl Tryd.sizeOf3 rfl rfl (by first | (right; assumption) | (left; simp)) ?_)
  intro w st; dsimp only [setNth, wr] at st
  refine vc_end ?_
  refine vq_then ?_
  refine vc_keep [(2, _), (3, _)] ⟨rfl, rfl, trivial⟩ ?_
  refine vc_seq ?_
  refine vc_region ?_
  refine vc_y rfl rfl ((by first | exact y_lda (vs := [_, _, _, _]) st 0 rfl Tryd.isAgg53 Tryd.sizeOf53 rfl rfl | exact y_lda (vs := [_, _, _, _]) st 1 rfl Tryd.isAgg53 Tryd.sizeOf53 rfl rfl | exact y_lda (vs := [_, _, _, _]) st 2 rfl Tryd.isAgg53 Tryd.sizeOf53 rfl rfl)) ?_
  first
  | refine vc_e (e_sts (vs := [_, _, _, _]) st 0 rfl rfl rfl rfl rfl Tryd.sizeOf53 rfl rfl (by first | (right; assumption) | (left; simp)) ?_)
  | refine vc_e (e_sts (vs := [_, _, _, _]) st 1 rfl rfl rfl rfl rfl Tryd.sizeOf53 rfl rfl (by first | (right; assumption) | (left; simp)) ?_)
  | refine vc_e (e_sts (vs := [_, _, _, _]) st 2 rfl rfl rfl rfl rfl Tryd.sizeOf53 rfl rfl (by first | (right; assumption) | (left; simp)) ?_)
  intro w st; dsimp only [setNth, wr] at st
  refine vc_end ?_
  refine vq_then ?_
  refine vc_keep [(2, _)] ⟨rfl, trivial⟩ ?_
  refine vc_ret ?_
  refine vq_ret1 st (.inl rfl) Tryd.results60 (by first | exact .cell 0 rfl rfl Tryd.isAgg53 Tryd.sizeOf53 | exact .cell 1 rfl rfl Tryd.isAgg53 Tryd.sizeOf53 | exact .cell 2 rfl rfl Tryd.isAgg53 Tryd.sizeOf53) ?_
  refine ⟨_, rfl, ?_⟩
  exact ⟨rfl, st.res (i := 2) rfl, st.chg⟩

theorem pfail_any (c : PCtx) (rule : Nat) (r : List Tok) (hr : r <:+ c.ts) (w : World) (hC : PCok c w) (hP : PAt c r w) (hR : c.R = 65) : RetP Tryd.prog 30 [.pointer (some ⟨c.pb, 0, none⟩), .int .i64 (rule : Int)] w (fun _ _ => False) (fun v w' => v = refV c (atT c.e r, rule) ∧ Chg [] w w') := by
  refine retp_of [_, _] Tryd.func30 rfl Tryd.ntmps30 rfl ?_
  have st := St.init w []
  obtain ⟨w0, rfl⟩ : ∃ w0, w0 = w := ⟨_, rfl⟩
  refine vc_region ?_
  refine vc_y rfl rfl (y_mv rfl) ?_
  refine vc_e (e_call [_] rfl rfl Tryd.call61 rfl (pat_any c r hr _ hC hP) ?_)
  rintro _ w ⟨rfl, cw⟩
  replace st := st.call0 cw
  refine vc_y rfl rfl (y_mv rfl) ?_
  refine vc_y rfl rfl (y_bld (.agg #[_, _]) [(0, _), (1, _)] rfl (fun w => by simp [Instr.build, go_sem] <;> repeat' constructor)) ?_
  refine vc_y rfl rfl (y_bld (.agg #[_, _]) [(0, _)] rfl (fun w => by simp [Instr.build, go_sem] <;> repeat' constructor)) ?_
  refine vc_y rfl rfl (y_mki rfl Tryd.underlying65) ?_
  refine vc_e (e_panicI rfl rfl (fun a ha => And.intro ha (Or.inr ⟨_, rfl, by rw [refV, hR], st.chg⟩)))

theorem pwant_any (c : PCtx) (ss : List (List UInt8)) (hss : ss.length ≤ 4) (lb n cap E : Nat) (hn : n = ss.length) (r : List Tok) (hr : r <:+ c.ts) (w : World) (hC : PCok c w) (hP : PAt c r w) (hR : c.R = 65)
    (hL : w.heap[lb]? = some (.cells (ss.map str).toArray E (0, 0))) (hne : lb ≠ c.pb) : RetP Tryd.prog 81 [.pointer (some ⟨c.pb, 0, none⟩), .slice (some ⟨lb, 0, none⟩) n cap] w
    (fun v w' => ∃ r', wantL c.e ss r = .ok r' ∧ r' <:+ r ∧ r'.length + ss.length ≤ r.length ∧ PAt c r' w' ∧ Chg [c.pb] w w') (PErr c (wantL c.e ss r) [c.pb] w) := by
  refine retp_of [_, _] Tryd.func81 rfl Tryd.ntmps81 rfl ?_
  
  obtain ⟨w0, rfl⟩ : ∃ w0, w0 = w := ⟨_, rfl⟩
  subst hn
  have hP' := hP
  dsimp only [PAt, pcell] at hP
  have st := St.of1 [c.pb] hP
  have h20 := hC.len
  have hl := suf_len hr
  refine vc_seq ?_
  refine vc_region ?_
  refine vc_y rfl rfl (y_mv rfl) ?_
  refine vc_y rfl rfl (y_lensl rfl Tryd.underlying50) ?_
  refine vc_y rfl rfl (y_mv rfl) ?_
  refine vc_end ?_
  refine vq_then ?_
  refine vc_keep [(0, _), (6, _), (7, _), (8, _)] ⟨rfl, rfl, rfl, rfl, trivial⟩ ?_
  refine vc_block ?_
  refine vc_loop (w0 := w0) (M := [c.pb]) (fun (y : Nat × List Tok) => [(0, .pointer (some ⟨c.pb, 0, none⟩)), (6, .slice (some ⟨lb, 0, none⟩) ss.length cap), (7, .int .i64 (ss.length : Int)), (8, .int .i64 (y.1 : Int))]) (fun y => [.blk c.pb (.cells (pcell c y.2).toArray c.T (0, 0))]) (fun y _ => y.1 ≤ ss.length ∧ y.2 <:+ r ∧ y.2.length + y.1 ≤ r.length ∧ wantL c.e ss r = wantL c.e (ss.drop y.1) y.2) (fun y => ss.length - y.1) (0, r) ⟨rfl, rfl, rfl, rfl, trivial⟩ st ⟨by simp, List.suffix_refl _, by simp, by simp⟩ ?_
  clear st
  rintro ⟨j, r1⟩ w ⟨hj, hr1, hl1, hw⟩ st
  dsimp only at hj hr1 hl1 hw st
  refine vc_seq ?_
  refine vc_region ?_
  refine vc_y rfl rfl (y_lss rfl rfl) ?_
  refine vc_end ?_
  refine vq_then ?_
  refine vc_keep [(0, _), (6, _), (7, _), (8, _), (9, _)] ⟨rfl, rfl, rfl, rfl, rfl, trivial⟩ ?_
  refine vc_seq ?_
  refine vc_ifs rfl ?_ ?_
  · intro hc9
    try simp only [decide_eq_true_eq, decide_eq_false_iff_not, Bool.not_eq_true', Bool.not_eq_false', Bool.not_eq_true, Bool.not_eq_false, Int.not_lt, Int.not_le, Nat.not_lt, Nat.not_le, Bool.not_true, Bool.not_false, Bool.true_eq_false, Bool.false_eq_true] at hc9
    have hjl : j < ss.length := by omega
    obtain ⟨s, hs⟩ : ∃ s, ss[j]? = some s := ⟨_, List.getElem?_eq_getElem hjl⟩
    have hcell : w0.cell? ⟨lb, j * 1, none⟩ = some (str s) := cell_blk hL (by rw [nth_eq, Nat.mul_one]; simp [hs])
    have hd : ss.drop j = s :: ss.drop (j + 1) := by rw [List.drop_eq_getElem_cons hjl]; congr 1; rw [List.getElem?_eq_getElem hjl] at hs; exact Option.some.inj hs
    rw [hd] at hw
    have hr2 := hr1.trans hr
    refine vc_code_skip ?_
    refine vq_then ?_
    refine vc_keep [(0, _), (6, _), (7, _), (8, _)] ⟨rfl, rfl, rfl, rfl, trivial⟩ ?_
    refine vc_seq ?_
    refine vc_block ?_
    refine vc_seq ?_
    refine vc_region ?_
    refine vc_y rfl rfl ((by first | exact y_ia0 (k := j) rfl rfl Tryd.underlying50 Tryd.sizeOf9 rfl (by omega) | exact y_ia (k := j) rfl rfl Tryd.underlying50 Tryd.sizeOf9 rfl (by omega))) ?_
    refine vc_y rfl rfl ((by first | exact y_ldc rfl Tryd.isAgg9 (st.chg.cell hcell (by simpa using hne)) | exact y_ld st 0 rfl Tryd.isAgg9 rfl rfl | exact y_ld st 1 rfl Tryd.isAgg9 rfl rfl)) ?_
    refine vc_y rfl rfl (y_as rfl) ?_
    refine vc_end ?_
    refine vq_then ?_
    refine vc_keep [(0, _), (5, _), (6, _), (7, _), (8, _)] ⟨rfl, rfl, rfl, rfl, rfl, trivial⟩ ?_
    refine vc_seq ?_
    refine vc_region ?_
    refine vc_y rfl rfl (y_mv rfl) ?_
    refine vc_y rfl rfl (y_mv rfl) ?_
    refine vc_e (e_call [_, _] rfl rfl Tryd.call67 rfl (ptake_any c s r1 hr2 _ (hC.k1 st.chg) (st.res (i := 0) rfl)) ?_)
    rintro _ w ⟨rfl, hP1, cw⟩
    replace st := st.prs 0 rfl cw (.inl (.head _)) hP1
    dsimp only [setNth] at st
    refine vc_y rfl rfl (y_not rfl) ?_
    refine vc_end ?_
    refine vq_then ?_
    refine vc_keep [(0, _), (6, _), (7, _), (8, _), (15, _)] ⟨rfl, rfl, rfl, rfl, rfl, trivial⟩ ?_
    refine vc_ifs rfl ?_ ?_
    · intro hc15
      try simp only [decide_eq_true_eq, decide_eq_false_iff_not, Bool.not_eq_true', Bool.not_eq_false', Bool.not_eq_true, Bool.not_eq_false, Int.not_lt, Int.not_le, Nat.not_lt, Nat.not_le, Bool.not_true, Bool.not_false, Bool.true_eq_false, Bool.false_eq_true] at hc15
      have hF : isT s r1 = false := by simpa using hc15
      simp only [hF, Bool.false_eq_true, if_false] at st
      refine vc_region ?_
      refine vc_y rfl rfl (y_mv rfl) ?_
      refine vc_e (e_callp [_, _] rfl rfl Tryd.call30 rfl (pfail_any c 2 r1 hr2 _ (hC.k1 st.chg) (st.res (i := 0) rfl) hR) (by rintro _ w' ⟨rfl, ch⟩ a ha; exact And.intro ha (Or.inr ⟨_, rfl, (atT c.e r1, 2), by rw [hw]; simp only [wantL, want_neg hF], rfl, st.chg.trans ch.of_nil⟩)) (fun _ _ h => h.elim))
    · intro hc15
      try simp only [decide_eq_true_eq, decide_eq_false_iff_not, Bool.not_eq_true', Bool.not_eq_false', Bool.not_eq_true, Bool.not_eq_false, Int.not_lt, Int.not_le, Nat.not_lt, Nat.not_le, Bool.not_true, Bool.not_false, Bool.true_eq_false, Bool.false_eq_true] at hc15
      have hT : isT s r1 = true := by simpa using hc15
      simp only [hT, if_true] at st
      have ht := tail_lt (isT_ne hT)
      refine vc_code_skip ?_
      refine vq_block ?_
      refine vq_then ?_
      refine vc_keep [(0, _), (6, _), (7, _), (8, _)] ⟨rfl, rfl, rfl, rfl, trivial⟩ ?_
      refine vc_region ?_
      refine vc_y rfl rfl (y_add rfl rfl (by omega : _ = ((j + 1 : Nat) : Int)) (by omega) (by omega)) ?_
      refine vc_y rfl rfl (y_mv rfl) ?_
      refine vc_end ?_
      refine vq_again (j + 1, r1.tail)  ⟨rfl, rfl, rfl, rfl, trivial⟩ st ?_ ?_
      · exact ⟨by dsimp only; omega, (List.tail_suffix _).trans hr1, by dsimp only; omega, by rw [hw]; simp only [wantL, want_pos hT]⟩
      · dsimp only; omega
  · intro hc9
    try simp only [decide_eq_true_eq, decide_eq_false_iff_not, Bool.not_eq_true', Bool.not_eq_false', Bool.not_eq_true, Bool.not_eq_false, Int.not_lt, Int.not_le, Nat.not_lt, Nat.not_le, Bool.not_true, Bool.not_false, Bool.true_eq_false, Bool.false_eq_true] at hc9
    refine vc_exit ?_
    refine vq_then_exit ?_
    refine vq_then_exit ?_
    refine vq_block_exit ?_
    refine vq_ret0 (.inr rfl) Tryd.results81 ?_
    refine .inl ⟨_, rfl, ?_⟩
    obtain rfl : j = ss.length := by omega
    rw [List.drop_length] at hw
    exact ⟨r1, hw, hr1, hl1, st.res (i := 0) rfl, st.chg⟩

end Go.Proofs.YtggnfanphcaamaaDoor

