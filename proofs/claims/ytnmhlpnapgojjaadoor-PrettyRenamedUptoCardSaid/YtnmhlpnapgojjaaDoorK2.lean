/- A part of the proof: contracts of functions and plain laws; each theorem says its own conditions. -/
import Derived.Test.YtnmhlpnapgojjaaDoorK1
/- The engine, fifteenth part: the trees of the language, as memory holds them. -/
namespace Sx
open Go Go.RowKit
set_option linter.unusedVariables false
set_option linter.unusedSimpArgs false

/-- an expression -/
inductive Ex where
  | mk (k op wd : Int) (nm : List UInt8) (kids : List Ex) (a : Int)
/-- a statement -/
inductive Sm where
  | mk (k : Int) (nm other : List UInt8) (e : List Ex) (body els : List Sm) (a : Int)
/-- a declaration -/
structure Dc where
  nm : List UInt8
  wd : Int
  a : Int
/-- a thread -/
structure Th where
  nm : List UInt8
  locals : List Dc
  body : List Sm
  a : Int
/-- a program -/
structure Pg where
  shared : List Dc
  locks : List Dc
  threads : List Th

def ex0 : Ex := .mk 0 0 0 [] [] 0
def sm0 : Sm := .mk 0 [] [] [] [] [] 0
def dc0 : Dc := ⟨[], 0, 0⟩
def th0 : Th := ⟨[], [], [], 0⟩
namespace Ex
def k : Ex → Int | .mk k _ _ _ _ _ => k
def op : Ex → Int | .mk _ op _ _ _ _ => op
def wd : Ex → Int | .mk _ _ wd _ _ _ => wd
def nm : Ex → List UInt8 | .mk _ _ _ nm _ _ => nm
def kids : Ex → List Ex | .mk _ _ _ _ kids _ => kids
def a : Ex → Int | .mk _ _ _ _ _ a => a
end Ex
namespace Sm
def k : Sm → Int | .mk k _ _ _ _ _ _ => k
def nm : Sm → List UInt8 | .mk _ nm _ _ _ _ _ => nm
def other : Sm → List UInt8 | .mk _ _ o _ _ _ _ => o
def e : Sm → List Ex | .mk _ _ _ e _ _ _ => e
def body : Sm → List Sm | .mk _ _ _ _ b _ _ => b
def els : Sm → List Sm | .mk _ _ _ _ _ e _ => e
def a : Sm → Int | .mk _ _ _ _ _ _ a => a
end Sm

/-- a row of things of 'sz' cells, at blocks of 'S' -/
def RowC (w : World) (S : Nat → Prop) (sz : Nat) (oa : Option Addr) (n : Nat) (vs : Nat → List Value) : Prop :=
  n = 0 ∨ ∃ b off, oa = some ⟨b, off, none⟩ ∧ S b ∧ b < w.heap.size ∧ ∀ j, j < n → (vs j).length = sz ∧ ∀ i v, (vs j)[i]? = some v → w.cell? ⟨b, off + j * sz + i, none⟩ = some v

def Same (S : Nat → Prop) (w w' : World) : Prop := w.heap.size ≤ w'.heap.size ∧ ∀ b, S b → b < w.heap.size → w'.heap[b]? = w.heap[b]?
theorem Same.of_chg {M : List Nat} {S : Nat → Prop} {w w' : World} (c : Chg M w w') (h : ∀ b, S b → b ∉ M) : Same S w w' := ⟨c.size, fun b hb hl => c.block b hl (h b hb)⟩
theorem Same.of_nil {S : Nat → Prop} {w w' : World} (c : Chg [] w w') : Same S w w' := .of_chg c (by simp)
theorem RowC.kept {w w' : World} {S : Nat → Prop} {sz : Nat} {oa : Option Addr} {n : Nat} {vs : Nat → List Value} (h : RowC w S sz oa n vs) (k : Same S w w') : RowC w' S sz oa n vs :=
  h.imp id fun ⟨b, off, e, hb, hl, hc⟩ => ⟨b, off, e, hb, Nat.lt_of_lt_of_le hl k.1, fun j hj => ⟨(hc j hj).1, fun i v hi => (World.cell?_of_block (k.2 b hb hl)).trans ((hc j hj).2 i v hi)⟩⟩
theorem RowC.mono {w : World} {S S' : Nat → Prop} {sz : Nat} {oa : Option Addr} {n : Nat} {vs : Nat → List Value} (h : RowC w S sz oa n vs) (k : ∀ b, S b → S' b) : RowC w S' sz oa n vs :=
  h.imp id fun ⟨b, off, e, hb, hl, hc⟩ => ⟨b, off, e, k b hb, hl, hc⟩

/-- an expression's cells -/
inductive ExV (w : World) (S : Nat → Prop) : Ex → List Value → Prop
  | mk {k op wd : Int} {nm : List UInt8} {kids : List Ex} {a : Int} {oa : Option Addr} {cap : Nat} (vs : Nat → List Value) (hr : RowC w S 6 oa kids.length vs) (hk : ∀ j x, kids[j]? = some x → ExV w S x (vs j)) :
      ExV w S (.mk k op wd nm kids a) [.int .u8 k, .int .u8 op, .int .i64 wd, str nm, .slice oa kids.length cap, .int .i64 a]
theorem ExV.kept {w w' : World} {S : Nat → Prop} {e : Ex} {l : List Value} (h : ExV w S e l) (k : Same S w w') : ExV w' S e l := by
  induction h with
  | mk vs hr hk ih => exact .mk vs (hr.kept k) ih
theorem ExV.mono {w : World} {S S' : Nat → Prop} {e : Ex} {l : List Value} (h : ExV w S e l) (k : ∀ b, S b → S' b) : ExV w S' e l := by
  induction h with
  | mk vs hr hk ih => exact .mk vs (hr.mono k) ih
theorem ExV.len {w : World} {S : Nat → Prop} {e : Ex} {l : List Value} (h : ExV w S e l) : l.length = 6 := by cases h; rfl
theorem ExV.one {w : World} {S : Nat → Prop} {e : Ex} {l : List Value} (h : ExV w S e l) : allOne l = true := by cases h; rfl
/-- a row of expressions -/
def ExRow (w : World) (S : Nat → Prop) (oa : Option Addr) (es : List Ex) : Prop := ∃ vs, RowC w S 6 oa es.length vs ∧ ∀ j x, es[j]? = some x → ExV w S x (vs j)
theorem ExRow.kept {w w' : World} {S : Nat → Prop} {oa : Option Addr} {es : List Ex} (h : ExRow w S oa es) (k : Same S w w') : ExRow w' S oa es := by
  obtain ⟨vs, h1, h2⟩ := h
  exact ⟨vs, h1.kept k, fun j x hx => (h2 j x hx).kept k⟩
theorem ExRow.mono {w : World} {S S' : Nat → Prop} {oa : Option Addr} {es : List Ex} (h : ExRow w S oa es) (k : ∀ b, S b → S' b) : ExRow w S' oa es := by
  obtain ⟨vs, h1, h2⟩ := h
  exact ⟨vs, h1.mono k, fun j x hx => (h2 j x hx).mono k⟩
/-- a statement's cells -/
inductive SmV (w : World) (S : Nat → Prop) : Sm → List Value → Prop
  | mk {k : Int} {nm other : List UInt8} {e : List Ex} {body els : List Sm} {a : Int} {oe ob ol : Option Addr} {ce cb cl : Nat} (vb vl : Nat → List Value) (he : ExRow w S oe e)
      (hb : RowC w S 7 ob body.length vb) (hbk : ∀ j x, body[j]? = some x → SmV w S x (vb j)) (hl : RowC w S 7 ol els.length vl) (hlk : ∀ j x, els[j]? = some x → SmV w S x (vl j)) :
      SmV w S (.mk k nm other e body els a) [.int .u8 k, str nm, str other, .slice oe e.length ce, .slice ob body.length cb, .slice ol els.length cl, .int .i64 a]
theorem SmV.kept {w w' : World} {S : Nat → Prop} {s : Sm} {l : List Value} (h : SmV w S s l) (k : Same S w w') : SmV w' S s l := by
  induction h with
  | mk vb vl he hb hbk hl hlk ih1 ih2 => exact .mk vb vl (he.kept k) (hb.kept k) ih1 (hl.kept k) ih2
theorem SmV.mono {w : World} {S S' : Nat → Prop} {s : Sm} {l : List Value} (h : SmV w S s l) (k : ∀ b, S b → S' b) : SmV w S' s l := by
  induction h with
  | mk vb vl he hb hbk hl hlk ih1 ih2 => exact .mk vb vl (he.mono k) (hb.mono k) ih1 (hl.mono k) ih2
theorem SmV.len {w : World} {S : Nat → Prop} {s : Sm} {l : List Value} (h : SmV w S s l) : l.length = 7 := by cases h; rfl
theorem SmV.one {w : World} {S : Nat → Prop} {s : Sm} {l : List Value} (h : SmV w S s l) : allOne l = true := by cases h; rfl
def SmRow (w : World) (S : Nat → Prop) (oa : Option Addr) (ss : List Sm) : Prop := ∃ vs, RowC w S 7 oa ss.length vs ∧ ∀ j x, ss[j]? = some x → SmV w S x (vs j)
theorem SmRow.kept {w w' : World} {S : Nat → Prop} {oa : Option Addr} {es : List Sm} (h : SmRow w S oa es) (k : Same S w w') : SmRow w' S oa es := by
  obtain ⟨vs, h1, h2⟩ := h
  exact ⟨vs, h1.kept k, fun j x hx => (h2 j x hx).kept k⟩
theorem SmRow.mono {w : World} {S S' : Nat → Prop} {oa : Option Addr} {es : List Sm} (h : SmRow w S oa es) (k : ∀ b, S b → S' b) : SmRow w S' oa es := by
  obtain ⟨vs, h1, h2⟩ := h
  exact ⟨vs, h1.mono k, fun j x hx => (h2 j x hx).mono k⟩
/-- declarations -/
def dcL (d : Dc) : List Value := [str d.nm, .int .i64 d.wd, .int .i64 d.a]
def DcRow (w : World) (S : Nat → Prop) (oa : Option Addr) (ds : List Dc) : Prop := RowC w S 3 oa ds.length (fun j => dcL (ds.getD j dc0))
/-- threads -/
def ThV (w : World) (S : Nat → Prop) (t : Th) (l : List Value) : Prop := ∃ ol cl ob cb, l = [str t.nm, .slice ol t.locals.length cl, .slice ob t.body.length cb, .int .i64 t.a] ∧ DcRow w S ol t.locals ∧ SmRow w S ob t.body
theorem ThV.kept {w w' : World} {S : Nat → Prop} {t : Th} {l : List Value} (h : ThV w S t l) (k : Same S w w') : ThV w' S t l := by
  obtain ⟨ol, cl, ob, cb, h1, h2, h3⟩ := h
  exact ⟨ol, cl, ob, cb, h1, RowC.kept h2 k, h3.kept k⟩
theorem ThV.mono {w : World} {S S' : Nat → Prop} {t : Th} {l : List Value} (h : ThV w S t l) (k : ∀ b, S b → S' b) : ThV w S' t l := by
  obtain ⟨ol, cl, ob, cb, h1, h2, h3⟩ := h
  exact ⟨ol, cl, ob, cb, h1, RowC.mono h2 k, h3.mono k⟩
theorem ThV.one {w : World} {S : Nat → Prop} {t : Th} {l : List Value} (h : ThV w S t l) : allOne l = true := by obtain ⟨ol, cl, ob, cb, rfl, _⟩ := h; rfl
def ThRow (w : World) (S : Nat → Prop) (oa : Option Addr) (ts : List Th) : Prop := ∃ vs, RowC w S 4 oa ts.length vs ∧ ∀ j x, ts[j]? = some x → ThV w S x (vs j)
theorem ThRow.kept {w w' : World} {S : Nat → Prop} {oa : Option Addr} {es : List Th} (h : ThRow w S oa es) (k : Same S w w') : ThRow w' S oa es := by
  obtain ⟨vs, h1, h2⟩ := h
  exact ⟨vs, h1.kept k, fun j x hx => (h2 j x hx).kept k⟩
theorem ThRow.mono {w : World} {S S' : Nat → Prop} {oa : Option Addr} {es : List Th} (h : ThRow w S oa es) (k : ∀ b, S b → S' b) : ThRow w S' oa es := by
  obtain ⟨vs, h1, h2⟩ := h
  exact ⟨vs, h1.mono k, fun j x hx => (h2 j x hx).mono k⟩
/-- a program's cells -/
def PgV (w : World) (S : Nat → Prop) (p : Pg) (l : List Value) : Prop := ∃ os cs ol cl ot ct, l = [.slice os p.shared.length cs, .slice ol p.locks.length cl, .slice ot p.threads.length ct] ∧ DcRow w S os p.shared ∧ DcRow w S ol p.locks ∧ ThRow w S ot p.threads
theorem PgV.kept {w w' : World} {S : Nat → Prop} {p : Pg} {l : List Value} (h : PgV w S p l) (k : Same S w w') : PgV w' S p l := by
  obtain ⟨os, cs, ol, cl, ot, ct, h1, h2, h3, h4⟩ := h
  exact ⟨os, cs, ol, cl, ot, ct, h1, RowC.kept h2 k, RowC.kept h3 k, h4.kept k⟩
theorem PgV.mono {w : World} {S S' : Nat → Prop} {p : Pg} {l : List Value} (h : PgV w S p l) (k : ∀ b, S b → S' b) : PgV w S' p l := by
  obtain ⟨os, cs, ol, cl, ot, ct, h1, h2, h3, h4⟩ := h
  exact ⟨os, cs, ol, cl, ot, ct, h1, RowC.mono h2 k, RowC.mono h3 k, h4.mono k⟩
end Sx


/- When a tree may be written, and its text: no program in sight. -/
namespace LexS
open Sx
set_option linter.unusedVariables false
set_option linter.unusedSimpArgs false
/-! ## when a tree may be written, and its text -/
/-- does a kid of a binary expression stand in parentheses? -/
def inn (op : Int) (x : Ex) (second : Bool) : Bool := decide (x.k = 4) && (decide (lvlO x.op < lvlO op) || second && decide (lvlO x.op = lvlO op))
def rightE : Ex → Nat → Bool
  | .mk k op wd nm kids a, d => decide (d ≤ 64) && (
    if k = 1 then decide (0 ≤ wd ∧ op = 0 ∧ nm = [] ∧ kids.length = 0)
    else if k = 2 then isName nm && decide (op = 0 ∧ wd = 0 ∧ kids.length = 0)
    else if k = 3 then oneOp op && decide (wd = 0 ∧ nm = []) && (match kids with | [x] => rightE x (if x.k = 4 then d + 2 else d + 1) | _ => false)
    else if k = 4 then twoOp op && decide (wd = 0 ∧ nm = []) && (match kids with | [x, y] => rightE x (if inn op x false = true then d + 1 else d) && rightE y (if inn op y true = true then d + 1 else d) | _ => false)
    else false)
def par (b : Bool) (l : List UInt8) : List UInt8 := if b = true then [40] ++ l ++ [41] else l
def txtE : Ex → List UInt8
  | .mk k op wd nm kids a => if k = 1 then shw wd else if k = 2 then nm else if k = 3 then shwO op ++ (match kids with | [x] => par (decide (x.k = 4)) (txtE x) | _ => [])
    else (match kids with | [x, y] => par (inn op x false) (txtE x) ++ ([32] ++ shwO op ++ [32]) ++ par (inn op y true) (txtE y) | _ => [])
def mar (d : Nat) : List UInt8 := List.replicate (2 * d) 32
def hasN (k : Int) : Bool := decide (k = 1 ∨ k = 2 ∨ k = 5)
def hasE (k : Int) : Bool := decide (k = 1 ∨ k = 2 ∨ k = 3 ∨ k = 4 ∨ k = 6)
def hasB (k : Int) : Bool := decide (k = 3 ∨ k = 4 ∨ k = 5)
def nmOk (b : Bool) (l : List UInt8) : Bool := if b = true then isName l else decide (l = [])
def rightX (b : Bool) (e : List Ex) : Bool := if b = true then (match e with | [x] => rightE x 0 | _ => false) else decide (e.length = 0)
mutual
def rightS : Sm → Nat → Bool
  | .mk k nm other e body els a, d => decide (1 ≤ k ∧ k ≤ 7) && nmOk (hasN k) nm && nmOk (decide (k = 2)) other && rightX (hasE k) e && (hasB k || decide (body.length = 0)) && (decide (k = 3) || decide (els.length = 0)) &&
    (!(hasB k || decide (0 < els.length)) || decide (d < 64)) && rightSs body (d + 1) && rightSs els (d + 1)
termination_by structural s => s
def rightSs : List Sm → Nat → Bool
  | [], _ => true
  | s :: r, d => rightS s d && rightSs r d
termination_by structural l => l
end
def txX (e : List Ex) : List UInt8 := match e with | x :: _ => txtE x | [] => []
mutual
def txtS : Sm → Nat → List UInt8
  | .mk k nm other e body els a, d =>
    if k = 1 then mar d ++ (nm ++ [32, 61, 32] ++ txX e ++ [59, 10])
    else if k = 2 then mar d ++ (nm ++ [32, 61, 32, 115, 119, 97, 112, 40] ++ other ++ [44, 32] ++ txX e ++ [41, 59, 10])
    else if k = 6 then mar d ++ ([112, 114, 105, 110, 116, 32] ++ txX e ++ [59, 10])
    else if k = 7 then mar d ++ [115, 107, 105, 112, 59, 10]
    else if k = 5 then mar d ++ ([108, 111, 99, 107, 32] ++ nm ++ [32, 123, 10]) ++ txtSs body (d + 1) ++ mar d ++ [125, 10]
    else mar d ++ ((if k = 4 then [119, 104, 105, 108, 101, 32, 40] else [105, 102, 32, 40]) ++ txX e ++ [41, 32, 123, 10]) ++ txtSs body (d + 1) ++ (if 0 < els.length then mar d ++ [125, 32, 101, 108, 115, 101, 32, 123, 10] ++ txtSs els (d + 1) else []) ++ mar d ++ [125, 10]
termination_by structural s => s
def txtSs : List Sm → Nat → List UInt8
  | [], _ => []
  | s :: r, d => txtS s d ++ txtSs r d
termination_by structural l => l
end
def dcOk (shared : Bool) (x : Dc) : Bool := isName x.nm && (if shared = true then decide (x.wd ≠ -9223372036854775808) else decide (x.wd = 0))
def thOk (t : Th) : Bool := isName t.nm && t.locals.all (dcOk false) && rightSs t.body 1
def pgOk (p : Pg) : Bool := p.shared.all (dcOk true) && p.locks.all (dcOk false) && p.threads.all thOk
def dcT (x : Dc) : List UInt8 := x.nm ++ (if x.wd = 0 then [] else [32, 61, 32] ++ shw x.wd)
/-- ', ' between -/
def joinC : List (List UInt8) → List UInt8
  | [] => []
  | [x] => x
  | x :: y :: r => x ++ [44, 32] ++ joinC (y :: r)
def dcsT (word : List UInt8) (d : Nat) (l : List Dc) : List UInt8 := if l.length = 0 then [] else mar d ++ (word ++ [32] ++ joinC (l.map dcT) ++ [59, 10])
def thT (t : Th) : List UInt8 := ([116, 104, 114, 101, 97, 100, 32] ++ t.nm ++ [32, 123, 10]) ++ dcsT [108, 111, 99, 97, 108] 1 t.locals ++ txtSs t.body 1 ++ [125, 10]
def pgT (p : Pg) : List UInt8 := dcsT [115, 104, 97, 114, 101, 100] 0 p.shared ++ dcsT [108, 111, 99, 107] 0 p.locks ++ (p.threads.map thT).flatten
def pgRes (p : Pg) : List UInt8 × Nat := if pgOk p = true then (if (pgT p).length ≤ 65536 then (pgT p, 0) else ([], 4)) else ([], 40)
end LexS


/- The engine, twentieth part: trees whose numbers are of their kinds; how great they are; arguments that are trees, opened. -/
namespace Sx
open Go Go.RowKit
set_option linter.unusedVariables false
set_option linter.unusedSimpArgs false
/-! ## numbers are of their kinds -/
def i64 (x : Int) : Prop := -9223372036854775808 ≤ x ∧ x ≤ 9223372036854775807
def u8 (x : Int) : Prop := 0 ≤ x ∧ x ≤ 255
inductive OkE : Ex → Prop
  | mk {k op wd : Int} {nm : List UInt8} {kids : List Ex} {a : Int} (h1 : u8 k) (h2 : u8 op) (h3 : i64 wd) (h4 : i64 a) (hn : kids.length ≤ 1099511627776) (hk : ∀ (j : Nat) x, kids[j]? = some x → OkE x) : OkE (.mk k op wd nm kids a)
theorem OkE.k {e : Ex} (h : OkE e) : u8 e.k := by cases h; assumption
theorem OkE.op {e : Ex} (h : OkE e) : u8 e.op := by cases h; assumption
theorem OkE.wd {e : Ex} (h : OkE e) : i64 e.wd := by cases h; assumption
theorem OkE.a {e : Ex} (h : OkE e) : i64 e.a := by cases h; assumption
theorem OkE.kid {e x : Ex} {j : Nat} (h : OkE e) (hj : e.kids[j]? = some x) : OkE x := by cases h with | mk h1 h2 h3 h4 hn hk => exact hk j x hj
def OkEs (es : List Ex) : Prop := es.length ≤ 1099511627776 ∧ ∀ (j : Nat) x, es[j]? = some x → OkE x
theorem OkE.kids {e : Ex} (h : OkE e) : OkEs e.kids := ⟨by cases h; assumption, fun j x hx => h.kid hx⟩
inductive OkS : Sm → Prop
  | mk {k : Int} {nm other : List UInt8} {e : List Ex} {body els : List Sm} {a : Int} (h1 : u8 k) (h2 : i64 a) (he : OkEs e) (hnb : body.length ≤ 1099511627776) (hb : ∀ (j : Nat) x, body[j]? = some x → OkS x) (hnl : els.length ≤ 1099511627776) (hl : ∀ (j : Nat) x, els[j]? = some x → OkS x) : OkS (.mk k nm other e body els a)
def OkSs (ss : List Sm) : Prop := ss.length ≤ 1099511627776 ∧ ∀ (j : Nat) x, ss[j]? = some x → OkS x
theorem OkS.k {s : Sm} (h : OkS s) : u8 s.k := by cases h; assumption
theorem OkS.a {s : Sm} (h : OkS s) : i64 s.a := by cases h; assumption
theorem OkS.e {s : Sm} (h : OkS s) : OkEs s.e := by cases h; assumption
theorem OkS.body {s : Sm} (h : OkS s) : OkSs s.body := by cases h with | mk h1 h2 he hnb hb hnl hl => exact ⟨hnb, hb⟩
theorem OkS.els {s : Sm} (h : OkS s) : OkSs s.els := by cases h with | mk h1 h2 he hnb hb hnl hl => exact ⟨hnl, hl⟩
def OkD (ds : List Dc) : Prop := ds.length ≤ 1099511627776 ∧ ∀ (j : Nat) x, ds[j]? = some x → i64 x.wd ∧ i64 x.a
def OkT (ts : List Th) : Prop := ts.length ≤ 1099511627776 ∧ ∀ (j : Nat) t, ts[j]? = some t → OkD t.locals ∧ OkSs t.body ∧ i64 t.a
def OkP (p : Pg) : Prop := OkD p.shared ∧ OkD p.locks ∧ OkT p.threads

/-! ## how great a tree is -/
mutual
def szE : Ex → Nat
  | .mk k op wd nm kids a => nm.length + szEs kids + 1
termination_by structural e => e
def szEs : List Ex → Nat
  | [] => 0
  | e :: r => szE e + szEs r
termination_by structural l => l
end
mutual
def szS : Sm → Nat
  | .mk k nm other e body els a => nm.length + other.length + szEs e + szSs body + szSs els + 1
termination_by structural e => e
def szSs : List Sm → Nat
  | [] => 0
  | e :: r => szS e + szSs r
termination_by structural l => l
end
def szDs : List Dc → Nat
  | [] => 0
  | d :: r => d.nm.length + 1 + szDs r
def szTs : List Th → Nat
  | [] => 0
  | t :: r => t.nm.length + szDs t.locals + szSs t.body + 1 + szTs r
def szP (p : Pg) : Nat := szDs p.shared + szDs p.locks + szTs p.threads

mutual
def bulkW {H : Type} : DataW H → Nat
  | .lit (.string bytes) => bytes.length + 1
  | .lit _ => 1
  | .nil => 1
  | .ptr d => bulkW d + 1
  | .slice elems spare => bulkWs elems + bulkWs spare + 1
  | .agg parts => bulkWs parts + 1
  | .iface _ d => bulkW d + 1
  | .map _ => 1
  | .held _ => 1
def bulkWs {H : Type} : List (DataW H) → Nat
  | [] => 0
  | d :: r => bulkW d + bulkWs r
end
theorem bulkW_pos {H : Type} (d : DataW H) : 1 ≤ bulkW d := by
  cases d with
  | lit l => cases l <;> simp [bulkW]
  | _ => simp [bulkW] <;> omega

/-! ## opened -/
def fitsB (P : Program) (t : TypeId) (ts : List TypeId) : Bool := match P.underlying t with
  | some (.struct fs) => decide (fs.toList.map (fun f => (f.type, f.offset, P.cellsOf f.type)) = (List.range ts.length).map (fun i => (ts.getD i 0, i, 1))) && decide (P.cellsOf t = ts.length)
  | _ => false
def isIntB (P : Program) (t : TypeId) (k : IntKind) : Bool := match P.underlying t with | some (.int j) => decide (j = k) | _ => false
def isStrB (P : Program) (t : TypeId) : Bool := match P.underlying t with | some .string => true | _ => false
def isSliceB (P : Program) (t e : TypeId) : Bool := match P.underlying t with | some (.slice x) => decide (x = e) | _ => false
theorem isInt_of {P : Program} {t : TypeId} {k : IntKind} (h : isIntB P t k = true) : P.underlying t = some (.int k) := by
  unfold isIntB at h
  split at h
  · rename_i j hj; simp at h; subst h; exact hj
  · cases h
theorem isStr_of {P : Program} {t : TypeId} (h : isStrB P t = true) : P.underlying t = some .string := by
  unfold isStrB at h
  split at h
  · assumption
  · cases h
theorem isSlice_of {P : Program} {t e : TypeId} (h : isSliceB P t e = true) : P.underlying t = some (.slice e) := by
  unfold isSliceB at h
  split at h
  · rename_i j hj; simp at h; subst h; exact hj
  · cases h
structure TyIds where
  k1 : TypeId
  op : TypeId
  wd : TypeId
  str : TypeId
  es : TypeId
  e : TypeId
  int : TypeId
  k2 : TypeId
  ss : TypeId
  s : TypeId
  ds : TypeId
  d : TypeId
  ts : TypeId
  t : TypeId
  pg : TypeId
def okIds (P : Program) (I : TyIds) : Bool := fitsB P I.e [I.k1, I.op, I.wd, I.str, I.es, I.int] && fitsB P I.s [I.k2, I.str, I.str, I.es, I.ss, I.ss, I.int] && fitsB P I.d [I.str, I.wd, I.int] && fitsB P I.t [I.str, I.ds, I.ss, I.int] && fitsB P I.pg [I.ds, I.ds, I.ts] &&
  isIntB P I.k1 .u8 && isIntB P I.op .u8 && isIntB P I.wd .i64 && isIntB P I.int .i64 && isIntB P I.k2 .u8 && isStrB P I.str && isSliceB P I.es I.e && isSliceB P I.ss I.s && isSliceB P I.ds I.d && isSliceB P I.ts I.t
section
variable {H : Type} {enc : TypeId × Value → H} {P : Program} {w : World}
abbrev Tr (enc : TypeId × Value → H) (P : Program) (w : World) (fuel : Nat) (t : TypeId) (cs : List Value) := DataW.trod enc P w 0 (fun _ => true) true fuel t cs
theorem open_fields {t : TypeId} {ts : List TypeId} {fuel : Nat} {cs : List Value} {d : DataW H} {ps : List MemPlace} (hf : fitsB P t ts = true) (h : Tr enc P w fuel t cs = some (d, ps)) :
    ∃ n ds, fuel = n + 1 ∧ d = .agg ds ∧ ds.length = ts.length ∧ cs.length = ts.length ∧ P.cellsOf t = ts.length ∧ ∀ (i : Nat) a c di, ts[i]? = some a → cs[i]? = some c → ds[i]? = some di → ∃ p, Tr enc P w n a [c] = some (di, p) := by
  unfold fitsB at hf
  split at hf
  · rename_i fs ht
    simp only [Bool.and_eq_true, decide_eq_true_eq] at hf
    obtain ⟨h1, h2⟩ := hf
    obtain ⟨xs, n, rfl, hx, hl, hxl, hall⟩ := DataW.trod_struct ht h
    simp only [Prod.mk.injEq] at hx
    have hn : fs.size = ts.length := by have := congrArg List.length h1; simpa using this
    refine ⟨n, xs.map (·.1), rfl, hx.1, by simp [hxl, hn], by omega, h2, fun i a c di ha hc hd => ?_⟩
    have hi : i < ts.length := (List.getElem?_eq_some_iff.1 ha).1
    have hfi : fs[i]? = some fs[i] := Array.getElem?_eq_getElem (by omega)
    have e := congrArg (·[i]?) h1
    simp only [List.getElem?_map, Array.getElem?_toList, hfi, Option.map_some, List.getElem?_range hi, Option.some.injEq, Prod.mk.injEq] at e
    obtain ⟨e1, e2, e3⟩ := e
    have hta : ts.getD i 0 = a := by rw [List.getD, ha]; rfl
    have hh := hall i _ hfi
    rw [e3, e2, e1, hta] at hh
    have hcs : (cs.drop i).take 1 = [c] := by
      have hlt := (List.getElem?_eq_some_iff.1 hc)
      rw [List.drop_eq_getElem_cons hlt.1, hlt.2]; rfl
    rw [hcs] at hh
    rw [List.getElem?_map] at hd
    cases hxi : xs[i]? with
    | none => rw [hxi] at hd; cases hd
    | some y =>
      rw [hxi] at hd hh
      simp only [Option.map_some, Option.some.injEq] at hd
      subst hd
      exact ⟨y.2, hh⟩
  · cases hf
theorem bulkWs_get {ds : List (DataW H)} {i : Nat} {d : DataW H} (h : ds[i]? = some d) : bulkW d ≤ bulkWs ds := by
  induction ds generalizing i with
  | nil => simp at h
  | cons x r ih =>
    cases i with
    | zero => simp at h; subst h; simp [bulkWs]
    | succ i => simp at h; have := ih h; simp only [bulkWs]; omega
theorem bulkWs_len (ds : List (DataW H)) : ds.length ≤ bulkWs ds := by
  induction ds with
  | nil => simp [bulkWs]
  | cons x r ih => have := bulkW_pos x; simp only [bulkWs, List.length_cons]; omega
theorem sum_le {α : Type} {f : α → Nat} : ∀ {l : List α} {ds : List (DataW H)}, l.length = ds.length → (∀ (j : Nat) x dd, l[j]? = some x → ds[j]? = some dd → f x ≤ bulkW dd) → (l.map f).sum ≤ bulkWs ds
  | [], [], _, _ => by simp
  | x :: r, d :: s, hl, h => by
    have h0 := h 0 x d rfl rfl
    have := sum_le (f := f) (l := r) (ds := s) (by simpa using hl) fun j y dd h1 h2 => h (j + 1) y dd (by simpa using h1) (by simpa using h2)
    simp only [List.map_cons, List.sum_cons, bulkWs]; omega
  | [], _ :: _, hl, _ => by simp at hl
  | _ :: _, [], hl, _ => by simp at hl
theorem open_list {α : Type} {B : Nat} {t e : TypeId} {sz fuel : Nat} {v : Value} {d : DataW H} {ps : List MemPlace} (hs : isSliceB P t e = true) (hc : P.cellsOf e = sz) (h0 : 0 < sz) (h : Tr enc P w fuel t [v] = some (d, ps)) (hB : bulkW d ≤ B)
    (V : α → List Value → Prop) (f : α → Nat) (x0 : α) (each : ∀ n, n < fuel → ∀ cs d ps, Tr enc P w n e cs = some (d, ps) → bulkW d ≤ B → ∃ x, V x cs ∧ f x ≤ bulkW d) :
    ∃ (oa : Option Addr) (cap : Nat) (l : List α) (vs : Nat → List Value), v = .slice oa l.length cap ∧ RowC w (· < w.heap.size) sz oa l.length vs ∧ (∀ (j : Nat) x, l[j]? = some x → V x (vs j)) ∧ (l.map f).sum ≤ bulkW d ∧ l.length ≤ bulkW d := by
  obtain ⟨oa, len, cap, n, elems, rest, rfl, hel, -, -, hn, hd, hrow⟩ := open_row (isSlice_of hs) hc h0 h
  rcases hrow with rfl | ⟨b, off, rfl, hall⟩
  · exact ⟨oa, cap, [], fun _ => [], rfl, .inl rfl, fun j x hx => by simp at hx, by simp, by simp⟩
  rcases hd with ⟨-, rfl, -⟩ | rfl
  · exact ⟨_, cap, [], fun _ => [], rfl, .inl rfl, fun j x hx => by simp at hx, by simp, by simp⟩
  have hbulk : bulkWs elems + bulkWs rest + 1 ≤ B := by simpa [bulkW] using hB
  obtain ⟨l, hl, hP⟩ := exists_list (x0, ([] : List Value)) len (fun j (y : α × List Value) => V y.1 y.2 ∧ y.2.length = sz ∧ (∃ dd, elems[j]? = some dd ∧ f y.1 ≤ bulkW dd) ∧ ∀ i u, y.2[i]? = some u → w.cell? ⟨b, off + j * sz + i, none⟩ = some u) fun j hj => by
    obtain ⟨cs, pp, dd, h1, h2, h3, h4⟩ := hall j hj
    have hle := bulkWs_get h2
    obtain ⟨x, hx, hfx⟩ := each n hn cs dd pp h3 (by omega)
    exact ⟨(x, cs), hx, h1, ⟨dd, h2, hfx⟩, h4⟩
  have hlm : (l.map (·.1)).length = len := by simpa using hl
  have hget : ∀ {j : Nat} {x : α}, (l.map (·.1))[j]? = some x → j < len ∧ (l.getD j (x0, [])).1 = x := by
    intro j x hx
    rw [List.getElem?_map] at hx
    cases hj : l[j]? with
    | none => rw [hj] at hx; cases hx
    | some y =>
      rw [hj] at hx
      simp only [Option.map_some, Option.some.injEq] at hx
      exact ⟨by have := (List.getElem?_eq_some_iff.1 hj).1; omega, by rw [List.getD, hj]; exact hx⟩
  refine ⟨some ⟨b, off, none⟩, cap, l.map (·.1), fun j => (l.getD j (x0, [])).2, by rw [hlm], ?_, fun j x hx => ?_, ?_, ?_⟩
  · rw [hlm]
    rcases Nat.eq_zero_or_pos len with hz | hz
    · exact .inl hz
    · refine .inr ⟨b, off, rfl, ?_, ?_, fun j hj => ⟨(hP j hj).2.1, (hP j hj).2.2.2⟩⟩ <;>
      · have h5 := (hP 0 hz).2.1
        have h6 := (hP 0 hz).2.2.2 0 ((l.getD 0 (x0, [])).2[0]'(by omega)) (by simp)
        exact World.block_lt_of_cell? w _ h6
  · obtain ⟨hj, rfl⟩ := hget hx
    exact (hP j hj).1
  · have := sum_le (f := f) (l := l.map (·.1)) (ds := elems) (by omega) fun j x dd hx hdd => by
      obtain ⟨hj, rfl⟩ := hget hx
      obtain ⟨dd', h1, h2⟩ := (hP j hj).2.2.1
      rw [hdd] at h1
      cases h1
      exact h2
    simp only [bulkW]; omega
  · have := bulkWs_len elems
    rw [hlm]; simp only [bulkW]; omega
theorem szEs_sum (l : List Ex) : szEs l = (l.map szE).sum := by
  induction l with
  | nil => simp [szEs]
  | cons x r ih => simp [szEs, ih]
theorem szSs_sum (l : List Sm) : szSs l = (l.map szS).sum := by
  induction l with
  | nil => simp [szSs]
  | cons x r ih => simp [szSs, ih]
theorem szDs_sum (l : List Dc) : szDs l = (l.map fun d => d.nm.length + 1).sum := by
  induction l with
  | nil => simp [szDs]
  | cons x r ih => simp [szDs, ih]
theorem szTs_sum (l : List Th) : szTs l = (l.map fun t => t.nm.length + szDs t.locals + szSs t.body + 1).sum := by
  induction l with
  | nil => simp [szTs]
  | cons x r ih => simp [szTs, ih]
theorem bounds64 {n : Int} (h : (Lit.int .i64 n).wf = true) : i64 n := by
  simp only [Lit.wf, IntKind.min, IntKind.max, IntKind.signed, IntKind.bits] at h
  simp at h
  exact ⟨by omega, by omega⟩
theorem bounds8 {n : Int} (h : (Lit.int .u8 n).wf = true) : u8 n := by
  simp only [Lit.wf, IntKind.min, IntKind.max, IntKind.signed, IntKind.bits] at h
  simp at h
  exact ⟨by omega, by omega⟩
variable {I : TyIds}
theorem okIds_inv (h : okIds P I = true) : fitsB P I.e [I.k1, I.op, I.wd, I.str, I.es, I.int] = true ∧ fitsB P I.s [I.k2, I.str, I.str, I.es, I.ss, I.ss, I.int] = true ∧ fitsB P I.d [I.str, I.wd, I.int] = true ∧ fitsB P I.t [I.str, I.ds, I.ss, I.int] = true ∧ fitsB P I.pg [I.ds, I.ds, I.ts] = true ∧
    isIntB P I.k1 .u8 = true ∧ isIntB P I.op .u8 = true ∧ isIntB P I.wd .i64 = true ∧ isIntB P I.int .i64 = true ∧ isIntB P I.k2 .u8 = true ∧ isStrB P I.str = true ∧ isSliceB P I.es I.e = true ∧ isSliceB P I.ss I.s = true ∧ isSliceB P I.ds I.d = true ∧ isSliceB P I.ts I.t = true := by
  unfold okIds at h
  simp only [Bool.and_eq_true] at h
  simp_all
theorem str_of (s : ByteArray) : Value.string s = str s.data.toList := by cases s; rfl
theorem open_ex (hI : okIds P I = true) : ∀ (fuel : Nat) (cs : List Value) (d : DataW H) (ps : List MemPlace), Tr enc P w fuel I.e cs = some (d, ps) → bulkW d ≤ 1048576 → ∃ e, (ExV w (· < w.heap.size) e cs ∧ OkE e) ∧ szE e ≤ bulkW d := by
  intro fuel
  refine Nat.strongRecOn fuel fun fuel ih => ?_
  intro cs d ps h hB
  obtain ⟨fe, -, -, -, -, k1, op, wd, it, -, st, es, -⟩ := okIds_inv hI
  obtain ⟨n, ds, rfl, rfl, hdl, hcl, hce, hall⟩ := open_fields fe h
  match cs, hcl, ds, hdl with
  | [c0, c1, c2, c3, c4, c5], _, [d0, d1, d2, d3, d4, d5], _ =>
    obtain ⟨_, h0⟩ := hall 0 _ _ _ rfl rfl rfl
    obtain ⟨_, h1⟩ := hall 1 _ _ _ rfl rfl rfl
    obtain ⟨_, h2⟩ := hall 2 _ _ _ rfl rfl rfl
    obtain ⟨_, h3⟩ := hall 3 _ _ _ rfl rfl rfl
    obtain ⟨_, h4⟩ := hall 4 _ _ _ rfl rfl rfl
    obtain ⟨_, h5⟩ := hall 5 _ _ _ rfl rfl rfl
    obtain ⟨a0, e0, x0, w0⟩ := DataW.trod_int (isInt_of k1) h0
    obtain ⟨a1, e1, x1, w1⟩ := DataW.trod_int (isInt_of op) h1
    obtain ⟨a2, e2, x2, w2⟩ := DataW.trod_int (isInt_of wd) h2
    obtain ⟨a3, e3, x3, w3⟩ := DataW.trod_string (isStr_of st) h3
    obtain ⟨a5, e5, x5, w5⟩ := DataW.trod_int (isInt_of it) h5
    simp only [List.cons.injEq, and_true, Prod.mk.injEq] at e0 e1 e2 e3 e5 x0 x1 x2 x3 x5
    obtain ⟨rfl, -⟩ := x0; obtain ⟨rfl, -⟩ := x1; obtain ⟨rfl, -⟩ := x2; obtain ⟨rfl, -⟩ := x3; obtain ⟨rfl, -⟩ := x5
    subst e0 e1 e2 e3 e5
    simp only [bulkW, bulkWs] at hB
    obtain ⟨oa, cap, l, vs, rfl, hrow, hV, hsum, hlen⟩ := open_list (B := 1048576) es (show P.cellsOf I.e = 6 from hce) (by omega) h4 (by omega) (fun e cs => ExV w (· < w.heap.size) e cs ∧ OkE e) szE ex0 (fun m hm cs d ps ht hb => ih m (by omega) cs d ps ht hb)
    refine ⟨.mk a0 a1 a2 a3.data.toList l a5, ⟨?_, ?_⟩, ?_⟩
    · rw [str_of a3]
      exact .mk vs hrow fun j x hx => (hV j x hx).1
    · exact .mk (bounds8 w0) (bounds8 w1) (bounds64 w2) (bounds64 w5) (by omega) fun j x hx => (hV j x hx).2
    · simp only [szE, szEs_sum, bulkW, bulkWs]; omega
theorem open_exs (hI : okIds P I = true) {fuel : Nat} {v : Value} {d : DataW H} {ps : List MemPlace} (h : Tr enc P w fuel I.es [v] = some (d, ps)) (hB : bulkW d ≤ 1048576) :
    ∃ (oa : Option Addr) (cap : Nat) (l : List Ex), v = .slice oa l.length cap ∧ ExRow w (· < w.heap.size) oa l ∧ OkEs l ∧ szEs l ≤ bulkW d := by
  obtain ⟨fe, -, -, -, -, -, -, -, -, -, -, es, -⟩ := okIds_inv hI
  have hce : P.cellsOf I.e = 6 := by
    have := fe
    unfold fitsB at this
    split at this
    · simp only [Bool.and_eq_true, decide_eq_true_eq] at this; exact this.2
    · cases this
  obtain ⟨oa, cap, l, vs, rfl, hrow, hV, hsum, hlen⟩ := open_list (B := 1048576) es hce (by omega) h hB (fun e cs => ExV w (· < w.heap.size) e cs ∧ OkE e) szE ex0 (fun m hm cs d ps ht hb => open_ex hI m cs d ps ht hb)
  exact ⟨oa, cap, l, rfl, ⟨vs, hrow, fun j x hx => (hV j x hx).1⟩, ⟨by omega, fun j x hx => (hV j x hx).2⟩, by rw [szEs_sum]; exact hsum⟩
theorem cells_fits {t : TypeId} {ts : List TypeId} (h : fitsB P t ts = true) : P.cellsOf t = ts.length := by
  unfold fitsB at h
  split at h
  · simp only [Bool.and_eq_true, decide_eq_true_eq] at h; exact h.2
  · cases h
theorem open_sm (hI : okIds P I = true) : ∀ (fuel : Nat) (cs : List Value) (d : DataW H) (ps : List MemPlace), Tr enc P w fuel I.s cs = some (d, ps) → bulkW d ≤ 1048576 → ∃ s, (SmV w (· < w.heap.size) s cs ∧ OkS s) ∧ szS s ≤ bulkW d := by
  intro fuel
  refine Nat.strongRecOn fuel fun fuel ih => ?_
  intro cs d ps h hB
  obtain ⟨-, fs, -, -, -, -, -, -, it, k2, st, -, ss, -⟩ := okIds_inv hI
  obtain ⟨n, ds, rfl, rfl, hdl, hcl, hce, hall⟩ := open_fields fs h
  match cs, hcl, ds, hdl with
  | [c0, c1, c2, c3, c4, c5, c6], _, [d0, d1, d2, d3, d4, d5, d6], _ =>
    obtain ⟨_, h0⟩ := hall 0 _ _ _ rfl rfl rfl
    obtain ⟨_, h1⟩ := hall 1 _ _ _ rfl rfl rfl
    obtain ⟨_, h2⟩ := hall 2 _ _ _ rfl rfl rfl
    obtain ⟨_, h3⟩ := hall 3 _ _ _ rfl rfl rfl
    obtain ⟨_, h4⟩ := hall 4 _ _ _ rfl rfl rfl
    obtain ⟨_, h5⟩ := hall 5 _ _ _ rfl rfl rfl
    obtain ⟨_, h6⟩ := hall 6 _ _ _ rfl rfl rfl
    obtain ⟨a0, e0, x0, w0⟩ := DataW.trod_int (isInt_of k2) h0
    obtain ⟨a1, e1, x1, w1⟩ := DataW.trod_string (isStr_of st) h1
    obtain ⟨a2, e2, x2, w2⟩ := DataW.trod_string (isStr_of st) h2
    obtain ⟨a6, e6, x6, w6⟩ := DataW.trod_int (isInt_of it) h6
    simp only [List.cons.injEq, and_true, Prod.mk.injEq] at e0 e1 e2 e6 x0 x1 x2 x6
    obtain ⟨rfl, -⟩ := x0; obtain ⟨rfl, -⟩ := x1; obtain ⟨rfl, -⟩ := x2; obtain ⟨rfl, -⟩ := x6
    subst e0 e1 e2 e6
    simp only [bulkW, bulkWs] at hB
    obtain ⟨oe, ce, le, rfl, hre, hoke, hse⟩ := open_exs hI h3 (by omega)
    obtain ⟨ob, cb, lb, vb, rfl, hrowb, hVb, hsumb, hlenb⟩ := open_list (B := 1048576) ss (show P.cellsOf I.s = 7 from hce) (by omega) h4 (by omega) (fun e cs => SmV w (· < w.heap.size) e cs ∧ OkS e) szS sm0 (fun m hm cs d ps ht hb => ih m (by omega) cs d ps ht hb)
    obtain ⟨ol, cl, ll, vl, rfl, hrowl, hVl, hsuml, hlenl⟩ := open_list (B := 1048576) ss (show P.cellsOf I.s = 7 from hce) (by omega) h5 (by omega) (fun e cs => SmV w (· < w.heap.size) e cs ∧ OkS e) szS sm0 (fun m hm cs d ps ht hb => ih m (by omega) cs d ps ht hb)
    refine ⟨.mk a0 a1.data.toList a2.data.toList le lb ll a6, ⟨?_, ?_⟩, ?_⟩
    · rw [str_of a1, str_of a2]
      exact .mk vb vl hre hrowb (fun j x hx => (hVb j x hx).1) hrowl (fun j x hx => (hVl j x hx).1)
    · exact .mk (bounds8 w0) (bounds64 w6) hoke (by omega) (fun j x hx => (hVb j x hx).2) (by omega) (fun j x hx => (hVl j x hx).2)
    · simp only [szS, szSs_sum, bulkW, bulkWs]; omega
theorem open_sms (hI : okIds P I = true) {fuel : Nat} {v : Value} {d : DataW H} {ps : List MemPlace} (h : Tr enc P w fuel I.ss [v] = some (d, ps)) (hB : bulkW d ≤ 1048576) :
    ∃ (oa : Option Addr) (cap : Nat) (l : List Sm), v = .slice oa l.length cap ∧ SmRow w (· < w.heap.size) oa l ∧ OkSs l ∧ szSs l ≤ bulkW d := by
  obtain ⟨-, fs, -, -, -, -, -, -, -, -, -, -, ss, -⟩ := okIds_inv hI
  obtain ⟨oa, cap, l, vs, rfl, hrow, hV, hsum, hlen⟩ := open_list (B := 1048576) ss (show P.cellsOf I.s = 7 from cells_fits fs) (by omega) h hB (fun e cs => SmV w (· < w.heap.size) e cs ∧ OkS e) szS sm0 (fun m hm cs d ps ht hb => open_sm hI m cs d ps ht hb)
  exact ⟨oa, cap, l, rfl, ⟨vs, hrow, fun j x hx => (hV j x hx).1⟩, ⟨by omega, fun j x hx => (hV j x hx).2⟩, by rw [szSs_sum]; exact hsum⟩
theorem open_ds (hI : okIds P I = true) {fuel : Nat} {v : Value} {d : DataW H} {ps : List MemPlace} (h : Tr enc P w fuel I.ds [v] = some (d, ps)) (hB : bulkW d ≤ 1048576) :
    ∃ (oa : Option Addr) (cap : Nat) (l : List Dc), v = .slice oa l.length cap ∧ DcRow w (· < w.heap.size) oa l ∧ OkD l ∧ szDs l ≤ bulkW d := by
  obtain ⟨-, -, fd, -, -, -, -, wd, it, -, st, -, -, dds, -⟩ := okIds_inv hI
  obtain ⟨oa, cap, l, vs, rfl, hrow, hV, hsum, hlen⟩ := open_list (B := 1048576) dds (show P.cellsOf I.d = 3 from cells_fits fd) (by omega) h hB (fun (x : Dc) cs => cs = dcL x ∧ i64 x.wd ∧ i64 x.a) (fun x => x.nm.length + 1) dc0 (fun m hm cs d ps ht hb => by
    obtain ⟨n, ds, rfl, rfl, hdl, hcl, hce, hall⟩ := open_fields fd ht
    match cs, hcl, ds, hdl with
    | [c0, c1, c2], _, [d0, d1, d2], _ =>
      obtain ⟨_, h0⟩ := hall 0 _ _ _ rfl rfl rfl
      obtain ⟨_, h1⟩ := hall 1 _ _ _ rfl rfl rfl
      obtain ⟨_, h2⟩ := hall 2 _ _ _ rfl rfl rfl
      obtain ⟨a0, e0, x0, w0⟩ := DataW.trod_string (isStr_of st) h0
      obtain ⟨a1, e1, x1, w1⟩ := DataW.trod_int (isInt_of wd) h1
      obtain ⟨a2, e2, x2, w2⟩ := DataW.trod_int (isInt_of it) h2
      simp only [List.cons.injEq, and_true, Prod.mk.injEq] at e0 e1 e2 x0 x1 x2
      obtain ⟨rfl, -⟩ := x0; obtain ⟨rfl, -⟩ := x1; obtain ⟨rfl, -⟩ := x2
      subst e0 e1 e2
      exact ⟨⟨a0.data.toList, a1, a2⟩, ⟨by rw [str_of a0]; rfl, bounds64 w1, bounds64 w2⟩, by simp only [bulkW, bulkWs]; omega⟩)
  refine ⟨oa, cap, l, rfl, ?_, ⟨by omega, fun j x hx => (hV j x hx).2⟩, by rw [szDs_sum]; exact hsum⟩
  refine hrow.imp id fun ⟨b, off, e, hb, hl, hc⟩ => ⟨b, off, e, hb, hl, fun j hj => ?_⟩
  have hx := List.getElem?_eq_getElem hj
  have := hc j hj
  rw [(hV j _ hx).1] at this
  simpa only [List.getD, hx, Option.getD_some] using this
theorem open_ts (hI : okIds P I = true) {fuel : Nat} {v : Value} {d : DataW H} {ps : List MemPlace} (h : Tr enc P w fuel I.ts [v] = some (d, ps)) (hB : bulkW d ≤ 1048576) :
    ∃ (oa : Option Addr) (cap : Nat) (l : List Th), v = .slice oa l.length cap ∧ ThRow w (· < w.heap.size) oa l ∧ OkT l ∧ szTs l ≤ bulkW d := by
  obtain ⟨-, -, -, ft, -, -, -, -, it, -, st, -, -, -, tts⟩ := okIds_inv hI
  obtain ⟨oa, cap, l, vs, rfl, hrow, hV, hsum, hlen⟩ := open_list (B := 1048576) tts (show P.cellsOf I.t = 4 from cells_fits ft) (by omega) h hB (fun (x : Th) cs => ThV w (· < w.heap.size) x cs ∧ OkD x.locals ∧ OkSs x.body ∧ i64 x.a) (fun t => t.nm.length + szDs t.locals + szSs t.body + 1) th0 (fun m hm cs d ps ht hb => by
    obtain ⟨n, ds, rfl, rfl, hdl, hcl, hce, hall⟩ := open_fields ft ht
    match cs, hcl, ds, hdl with
    | [c0, c1, c2, c3], _, [d0, d1, d2, d3], _ =>
      obtain ⟨_, h0⟩ := hall 0 _ _ _ rfl rfl rfl
      obtain ⟨_, h1⟩ := hall 1 _ _ _ rfl rfl rfl
      obtain ⟨_, h2⟩ := hall 2 _ _ _ rfl rfl rfl
      obtain ⟨_, h3⟩ := hall 3 _ _ _ rfl rfl rfl
      obtain ⟨a0, e0, x0, w0⟩ := DataW.trod_string (isStr_of st) h0
      obtain ⟨a3, e3, x3, w3⟩ := DataW.trod_int (isInt_of it) h3
      simp only [List.cons.injEq, and_true, Prod.mk.injEq] at e0 e3 x0 x3
      obtain ⟨rfl, -⟩ := x0; obtain ⟨rfl, -⟩ := x3
      subst e0 e3
      simp only [bulkW, bulkWs] at hb
      obtain ⟨ol, cl, ll, rfl, q1, q2, q3⟩ := open_ds hI h1 (by omega)
      obtain ⟨ob, cb, lb, rfl, r1, r2, r3⟩ := open_sms hI h2 (by omega)
      exact ⟨⟨a0.data.toList, ll, lb, a3⟩, ⟨⟨ol, cl, ob, cb, by rw [str_of a0], q1, r1⟩, q2, r2, bounds64 w3⟩, by simp only [bulkW, bulkWs]; omega⟩)
  exact ⟨oa, cap, l, rfl, ⟨vs, hrow, fun j x hx => (hV j x hx).1⟩, ⟨by omega, fun j x hx => (hV j x hx).2⟩, by rw [szTs_sum]; exact hsum⟩
/-- an argument that is a program -/
theorem open_pg (hI : okIds P I = true) {r : Reach} {b0 : Nat} {v : Value} {d : DataW H} {ps : List MemPlace} (hval : Value.okWide P w r b0 I.pg v) (h : DataW.Trod enc P w 0 (fun _ => true) true I.pg v d ps) (hB : bulkW d ≤ 1048576) :
    ∃ (p : Pg) (os ol ot : Option Addr) (cs cl ct : Nat), v = .agg [.slice os p.shared.length cs, .slice ol p.locks.length cl, .slice ot p.threads.length ct].toArray ∧ DcRow w (· < w.heap.size) os p.shared ∧ DcRow w (· < w.heap.size) ol p.locks ∧ ThRow w (· < w.heap.size) ot p.threads ∧ OkP p ∧ szP p ≤ bulkW d := by
  obtain ⟨-, -, -, -, fp, -, -, -, -, -, -, -, -, -, -⟩ := okIds_inv hI
  obtain ⟨fuel, h⟩ := h
  obtain ⟨n, ds, rfl, rfl, hdl, hcl, hce, hall⟩ := open_fields fp h
  have hagg : ∃ cs, v = .agg cs := by
    unfold fitsB at fp
    split at fp
    · rename_i fs ht
      simp only [Value.okWide, ht] at hval
      obtain ⟨cs, rfl, -⟩ := hval
      exact ⟨cs, rfl⟩
    · cases fp
  obtain ⟨⟨cs⟩, rfl⟩ := hagg
  simp only [Value.cells] at hcl hall
  match cs, hcl, ds, hdl with
  | [c0, c1, c2], _, [d0, d1, d2], _ =>
    obtain ⟨_, h0⟩ := hall 0 _ _ _ rfl rfl rfl
    obtain ⟨_, h1⟩ := hall 1 _ _ _ rfl rfl rfl
    obtain ⟨_, h2⟩ := hall 2 _ _ _ rfl rfl rfl
    simp only [bulkW, bulkWs] at hB
    obtain ⟨os, cs, ls, rfl, q1, q2, q3⟩ := open_ds hI h0 (by omega)
    obtain ⟨ol, cl, ll, rfl, r1, r2, r3⟩ := open_ds hI h1 (by omega)
    obtain ⟨ot, ct, lt, rfl, s1, s2, s3⟩ := open_ts hI h2 (by omega)
    exact ⟨⟨ls, ll, lt⟩, os, ol, ot, cs, cl, ct, rfl, q1, r1, s1, ⟨q2, r2, s2⟩, by simp only [szP, bulkW, bulkWs]; omega⟩
end
end Sx


namespace Go.Proofs.YtnmhlpnapgojjaaDoor
open Go.RowKit Sx LexS
set_option linter.unusedVariables false
set_option linter.unusedSimpArgs false
theorem rightE_le {e : Ex} {d : Nat} (h : rightE e d = true) : d ≤ 64 := by
  cases e
  unfold rightE at h
  simp only [Bool.and_eq_true, decide_eq_true_eq] at h
  exact h.1
theorem rightSs_get : ∀ {l : List Sm} {d j : Nat} {s : Sm}, rightSs l d = true → l[j]? = some s → rightS s d = true
  | [], d, j, s, _, h => by simp at h
  | x :: r, d, 0, s, h, hj => by
    simp only [List.getElem?_cons_zero, Option.some.injEq] at hj
    subst hj
    simp only [rightSs, Bool.and_eq_true] at h
    exact h.1
  | x :: r, d, j + 1, s, h, hj => by
    simp only [rightSs, Bool.and_eq_true] at h
    exact rightSs_get h.2 (by simpa using hj)
theorem rightSs_no : ∀ {l : List Sm} {d j : Nat} {s : Sm}, rightS s d = false → l[j]? = some s → rightSs l d = false
  | [], d, j, s, _, h => by simp at h
  | x :: r, d, 0, s, h, hj => by
    simp only [List.getElem?_cons_zero, Option.some.injEq] at hj
    subst hj
    simp [rightSs, h]
  | x :: r, d, j + 1, s, h, hj => by
    simp [rightSs, rightSs_no h (by simpa using hj : r[j]? = some s)]
/-! ## reading rows -/
theorem RowC.at {w : World} {S : Nat → Prop} {sz n : Nat} {oa : Option Addr} {vs : Nat → List Value} (h : RowC w S sz oa n vs) (hn : 0 < n) :
    ∃ b off, oa = some ⟨b, off, none⟩ ∧ S b ∧ b < w.heap.size ∧ ∀ j, j < n → (vs j).length = sz ∧ ∀ i v, (vs j)[i]? = some v → w.cell? ⟨b, off + j * sz + i, none⟩ = some v := by
  rcases h with h | h
  · omega
  · exact h
abbrev szo {α : Type} [SizeOf α] (x : α) : Nat := SizeOf.sizeOf x
theorem ex_size {k op wd : Int} {nm : List UInt8} {kids : List Ex} {a : Int} : szo kids < szo (Ex.mk k op wd nm kids a) := by
  simp only [szo, Ex.mk.sizeOf_spec]; omega
theorem mem_size {α : Type} [SizeOf α] {l : List α} {j : Nat} {x : α} (h : l[j]? = some x) : szo x < szo l := List.sizeOf_lt_of_mem (List.mem_of_getElem? h)
theorem sm_size {k : Int} {nm other : List UInt8} {e : List Ex} {body els : List Sm} {a : Int} : szo body < szo (Sm.mk k nm other e body els a) ∧ szo els < szo (Sm.mk k nm other e body els a) := by
  simp only [szo, Sm.mk.sizeOf_spec]; omega
section
variable {w w' : World} {S : Nat → Prop} {M : List Nat}
/-- an expression's value -/
abbrev exL (e : Ex) (oa : Option Addr) (cap : Nat) : List Value := [.int .u8 e.k, .int .u8 e.op, .int .i64 e.wd, str e.nm, .slice oa e.kids.length cap, .int .i64 e.a]
theorem ExV.inv {e : Ex} {l : List Value} (h : ExV w S e l) : ∃ oa cap, l = exL e oa cap ∧ ExRow w S oa e.kids := by
  cases h with
  | mk vs hr hk => exact ⟨_, _, rfl, vs, hr, hk⟩
theorem ExRow.at {oa : Option Addr} {es : List Ex} (h : ExRow w S oa es) (hn : 0 < es.length) : ∃ b off, oa = some ⟨b, off, none⟩ ∧ S b ∧ b < w.heap.size ∧
    ∀ j x, es[j]? = some x → ∃ o c, ExV w S x (exL x o c) ∧ ExRow w S o x.kids ∧ ∀ i v, (exL x o c)[i]? = some v → w.cell? ⟨b, off + j * 6 + i, none⟩ = some v := by
  obtain ⟨vs, hr, hk⟩ := h
  obtain ⟨b, off, e, hb, hl, hc⟩ := RowC.at hr hn
  refine ⟨b, off, e, hb, hl, fun j x hx => ?_⟩
  have hx' := hk j x hx
  obtain ⟨o, c, e2, hr2⟩ := ExV.inv hx'
  have := (hc j (List.getElem?_eq_some_iff.1 hx).1).2
  rw [e2] at hx' this
  exact ⟨o, c, hx', hr2, this⟩
/-- a statement's value -/
abbrev smL (s : Sm) (oe ob ol : Option Addr) (ce cb cl : Nat) : List Value := [.int .u8 s.k, str s.nm, str s.other, .slice oe s.e.length ce, .slice ob s.body.length cb, .slice ol s.els.length cl, .int .i64 s.a]
theorem SmV.inv {s : Sm} {l : List Value} (h : SmV w S s l) : ∃ oe ob ol ce cb cl, l = smL s oe ob ol ce cb cl ∧ ExRow w S oe s.e ∧ SmRow w S ob s.body ∧ SmRow w S ol s.els := by
  cases h with
  | mk vb vl he hb hbk hl hlk => exact ⟨_, _, _, _, _, _, rfl, he, ⟨vb, hb, hbk⟩, ⟨vl, hl, hlk⟩⟩
theorem SmRow.at {oa : Option Addr} {es : List Sm} (h : SmRow w S oa es) (hn : 0 < es.length) : ∃ b off, oa = some ⟨b, off, none⟩ ∧ S b ∧ b < w.heap.size ∧
    ∀ j s, es[j]? = some s → ∃ oe ob ol ce cb cl, SmV w S s (smL s oe ob ol ce cb cl) ∧ ExRow w S oe s.e ∧ SmRow w S ob s.body ∧ SmRow w S ol s.els ∧ ∀ i v, (smL s oe ob ol ce cb cl)[i]? = some v → w.cell? ⟨b, off + j * 7 + i, none⟩ = some v := by
  obtain ⟨vs, hr, hk⟩ := h
  obtain ⟨b, off, e, hb, hl, hc⟩ := RowC.at hr hn
  refine ⟨b, off, e, hb, hl, fun j x hx => ?_⟩
  have hx' := hk j x hx
  obtain ⟨oe, ob, ol, ce, cb, cl, e2, h1, h2, h3⟩ := SmV.inv hx'
  have := (hc j (List.getElem?_eq_some_iff.1 hx).1).2
  rw [e2] at hx' this
  exact ⟨oe, ob, ol, ce, cb, cl, hx', h1, h2, h3, this⟩
theorem DcRow.at {oa : Option Addr} {ds : List Dc} (h : DcRow w S oa ds) (hn : 0 < ds.length) : ∃ b off, oa = some ⟨b, off, none⟩ ∧ S b ∧ b < w.heap.size ∧
    ∀ j x, ds[j]? = some x → ∀ i v, (dcL x)[i]? = some v → w.cell? ⟨b, off + j * 3 + i, none⟩ = some v := by
  obtain ⟨b, off, e, hb, hl, hc⟩ := RowC.at h hn
  refine ⟨b, off, e, hb, hl, fun j x hx => ?_⟩
  have hj := (List.getElem?_eq_some_iff.1 hx).1
  have := (hc j hj).2
  simp only [List.getD, hx, Option.getD_some] at this
  exact this
abbrev thL (t : Th) (ol ob : Option Addr) (cl cb : Nat) : List Value := [str t.nm, .slice ol t.locals.length cl, .slice ob t.body.length cb, .int .i64 t.a]
theorem ThRow.at {oa : Option Addr} {ts : List Th} (h : ThRow w S oa ts) (hn : 0 < ts.length) : ∃ b off, oa = some ⟨b, off, none⟩ ∧ S b ∧ b < w.heap.size ∧
    ∀ j t, ts[j]? = some t → ∃ ol ob cl cb, DcRow w S ol t.locals ∧ SmRow w S ob t.body ∧ ∀ i v, (thL t ol ob cl cb)[i]? = some v → w.cell? ⟨b, off + j * 4 + i, none⟩ = some v := by
  obtain ⟨vs, hr, hk⟩ := h
  obtain ⟨b, off, e, hb, hl, hc⟩ := RowC.at hr hn
  refine ⟨b, off, e, hb, hl, fun j x hx => ?_⟩
  obtain ⟨ol, cl, ob, cb, e2, h1, h2⟩ := hk j x hx
  have := (hc j (List.getElem?_eq_some_iff.1 hx).1).2
  rw [e2] at this
  exact ⟨ol, ob, cl, cb, h1, h2, this⟩
theorem Sig.kept' (h : Sig w) (c : Chg M w w') (hm : 0 ∉ M) : Sig w' := fun k hk => ⟨c.cell (h k hk).1 (by simpa using hm), c.cell (h k hk).2 (by simpa using hm)⟩
end
theorem get0 {α : Type} {l : List α} {n : Nat} (h : l.length = n) (hn : 0 < n) : ∃ x, l[0]? = some x := by
  cases l with
  | nil => simp at h; omega
  | cons x r => exact ⟨x, rfl⟩
theorem one_form {α : Type} {l : List α} {x : α} (h : l.length = 1) (h0 : l[0]? = some x) : l = [x] := by
  match l, h with
  | [y], _ => simp at h0; rw [h0]
theorem two_form {α : Type} {l : List α} {x y : α} (h : l.length = 2) (h0 : l[0]? = some x) (h1 : l[1]? = some y) : l = [x, y] := by
  match l, h with
  | [a, b], _ => simp at h0 h1; rw [h0, h1]
theorem get1 {α : Type} {l : List α} (h : l.length = 2) : ∃ x, l[1]? = some x := by
  match l, h with
  | [a, b], _ => exact ⟨b, rfl⟩
theorem rightE_1 {e : Ex} {d : Nat} (h : e.k = 1) (hd : d ≤ 64) : rightE e d = decide (0 ≤ e.wd ∧ e.op = 0 ∧ e.nm = [] ∧ e.kids.length = 0) := by
  cases e; simp only [Ex.k] at h; subst h; unfold rightE; simp [hd, Ex.wd, Ex.op, Ex.nm, Ex.kids]
theorem rightE_2 {e : Ex} {d : Nat} (h : e.k = 2) (hd : d ≤ 64) : rightE e d = (isName e.nm && decide (e.op = 0 ∧ e.wd = 0 ∧ e.kids.length = 0)) := by
  cases e; simp only [Ex.k] at h; subst h; unfold rightE; simp [hd, Ex.wd, Ex.op, Ex.nm, Ex.kids]
theorem rightE_3 {e x : Ex} {d : Nat} (h : e.k = 3) (hd : d ≤ 64) (hx : e.kids = [x]) : rightE e d = (oneOp e.op && decide (e.wd = 0 ∧ e.nm = []) && rightE x (if x.k = 4 then d + 2 else d + 1)) := by
  cases e with
  | mk k op wd nm kids a =>
    change k = 3 at h; change kids = [x] at hx; subst h hx
    show rightE (.mk 3 op wd nm [x] a) d = (oneOp op && decide (wd = 0 ∧ nm = []) && rightE x (if x.k = 4 then d + 2 else d + 1))
    rw [rightE]; simp [hd]
theorem rightE_3n {e : Ex} {d : Nat} (h : e.k = 3) (hx : e.kids.length ≠ 1 ∨ oneOp e.op = false ∨ e.wd ≠ 0 ∨ e.nm ≠ []) : rightE e d = false := by
  cases e with
  | mk k op wd nm kids a =>
    simp only [Ex.k] at h; subst h
    simp only [Ex.kids, Ex.op, Ex.wd, Ex.nm] at hx
    rcases kids with _ | ⟨x, _ | ⟨y, _ | ⟨z, r⟩⟩⟩ <;> rw [rightE] <;> rcases hx with h | h | h | h <;> simp_all
theorem rightE_4 {e x y : Ex} {d : Nat} (h : e.k = 4) (hd : d ≤ 64) (hx : e.kids = [x, y]) : rightE e d = (twoOp e.op && decide (e.wd = 0 ∧ e.nm = []) && (rightE x (if inn e.op x false = true then d + 1 else d) && rightE y (if inn e.op y true = true then d + 1 else d))) := by
  cases e with
  | mk k op wd nm kids a =>
    change k = 4 at h; change kids = [x, y] at hx; subst h hx
    show rightE (.mk 4 op wd nm [x, y] a) d = (twoOp op && decide (wd = 0 ∧ nm = []) && (rightE x (if inn op x false = true then d + 1 else d) && rightE y (if inn op y true = true then d + 1 else d)))
    rw [rightE]; simp [hd]
theorem rightE_4n {e : Ex} {d : Nat} (h : e.k = 4) (hx : e.kids.length ≠ 2 ∨ twoOp e.op = false ∨ e.wd ≠ 0 ∨ e.nm ≠ []) : rightE e d = false := by
  cases e with
  | mk k op wd nm kids a =>
    simp only [Ex.k] at h; subst h
    simp only [Ex.kids, Ex.op, Ex.wd, Ex.nm] at hx
    rcases kids with _ | ⟨x, _ | ⟨y, _ | ⟨z, r⟩⟩⟩ <;> rw [rightE] <;> rcases hx with h | h | h | h <;> simp_all
theorem rightE_0 {e : Ex} {d : Nat} (h1 : e.k ≠ 1) (h2 : e.k ≠ 2) (h3 : e.k ≠ 3) (h4 : e.k ≠ 4) : rightE e d = false := by
  cases e; simp only [Ex.k] at *; unfold rightE; simp [h1, h2, h3, h4]
theorem inn_f {op : Int} {x : Ex} (h : x.k = 4) : inn op x false = decide (lvlO x.op < lvlO op) := by unfold inn; simp [h]
theorem inn_n {op : Int} {x : Ex} {b : Bool} (h : ¬x.k = 4) : inn op x b = false := by unfold inn; simp [h]
theorem inn_t {op : Int} {x : Ex} (h : x.k = 4) : inn op x true = decide (lvlO x.op ≤ lvlO op) := by
  unfold inn; rw [Bool.eq_iff_iff]; simp [h]; omega
theorem rightE_big {e : Ex} {d : Nat} (h : 64 < d) : rightE e d = false := by
  cases hr : rightE e d
  · rfl
  · have := rightE_le hr; omega
theorem rightE_3d {e : Ex} {d : Nat} (h : e.k = 3) (hd : 64 ≤ d) : rightE e d = false := by
  by_cases h1 : e.kids.length = 1
  · obtain ⟨x, hx⟩ := get0 h1 (by omega)
    by_cases h2 : d ≤ 64
    · rw [rightE_3 h h2 (one_form h1 hx), rightE_big (by split <;> omega), Bool.and_false]
    · exact rightE_big (by omega)
  · exact rightE_3n h (.inl h1)
theorem szo_kids (e : Ex) : szo e.kids < szo e := by cases e; exact ex_size
end Go.Proofs.YtnmhlpnapgojjaaDoor


/- The engine, sixteenth part: a text that grows in somebody's memory: a struct of a byte slice and a flag. -/
namespace Sx
open Go Go.RowKit
set_option linter.unusedVariables false
set_option linter.unusedSimpArgs false

/-- a row of cells that the callee does not own: its block may change -/
def frn (M : List Nat) (base E : Nat) (v : Value) (n : Nat) (xs : List Value) : Res := .tree v.ownBlock.toList fun w => w.ownsRow 0 E 1 v n xs ∧ ∀ k, v.ownBlock = some k → k ∈ M ∨ base ≤ k

theorem loc_owns (E n : Nat) (v : Value) (xs : List Value) : Loc v.ownBlock.toList fun w => w.ownsRow 0 E 1 v n xs := by
  intro w w' hs hk ⟨h1, h2⟩
  refine ⟨h1, h2.imp id fun ⟨g, cap, cur, e, hb, hc, hr⟩ => ⟨g, cap, cur, e, hb, ?_, hr⟩⟩
  rw [hk g (by rw [e]; simp [Value.ownBlock])]; exact hc

section
variable {w0 w w' : World} {M : List Nat} {hs : List Res}

theorem frn_holds {base' base E n : Nat} {v : Value} {xs : List Value} (ho : w.ownsRow 0 E 1 v n xs) (hm : ∀ k, v.ownBlock = some k → k ∈ M ∨ base ≤ k) : (frn M base E v n xs).holds base' w :=
  ⟨⟨ho, hm⟩, fun k hk => (World.ownsRow.lt ho k (by simpa using hk)).2, fun a b hs hk h => ⟨loc_owns E n v xs a b hs hk h.1, h.2⟩⟩

theorem St.appF (st : St w0 M hs w) {i E n n' : Nat} {v v' : Value} {xs xs' : List Value} (hi : nth hs i = some (frn M w0.heap.size E v n xs)) (hg : w.grownBy w' v.ownBlock)
    (hown : w'.ownsRow 0 E 1 v' n' xs') (hat : ∀ k, v'.ownBlock = some k → v.ownBlock = some k ∨ w.heap.size ≤ k) :
    St w0 M (setNth hs i (frn M w0.heap.size E v' n' xs')) w' := by
  obtain ⟨⟨h1, h2⟩, -⟩ := st.res hi
  refine st.swap hi (Chg.of_grownByO hg) (by simp [Res.at?, frn]) (fun k hk => h2 k (by simpa using hk)) (fun k hk => ?_) (frn_holds hown fun k hk => ?_)
  · simp only [Res.at?, frn, Option.mem_toList] at hk ⊢
    exact hat k hk
  · rcases hat k hk with h | h
    · exact h2 k h
    · exact .inr (Nat.le_trans st.chg.size h)

variable {P : Program} {n : Fr} {L : List Oper} {Q : Exit → Act → World → Prop} {kn : Kn} {N : Act → World → Prop}
variable {d ty : Nat} {pos : String} {aft : Array Edge} {g : Option (Nat × Bool)}

theorem slice_form {base E len : Nat} {v : Value} {xs : List Value} (ho : w.ownsRow base E 1 v len xs) : ∃ oa cap, v = .slice oa len cap := by
  rcases ho.2 with ⟨rfl, h0⟩ | ⟨g, cap, cur, rfl, _⟩
  · exact ⟨none, 0, by rw [h0]⟩
  · exact ⟨_, _, rfl⟩

/-- append(v, s...) to a row that is another's -/
theorem e_appsF (st : St w0 M hs w) (i : Nat) {T U E len : Nat} {x y : Operand} {v : Value} {xs : List Value} {p : List UInt8} {ti : TypeInfo} (hw : gd L kn g = some true) (hd : okDst n (some d) = true)
    (hx : evO kn x = some v) (hy : evO kn y = some (str p)) (hi : nth hs i = some (frn M w0.heap.size E v len xs))
    (ht : P.underlying T = some (.slice E)) (hu : P.underlying U = some .string) (hinfo : P.info? E = some ti) (hz : ti.zero = some (.int .u8 0)) (hsize : ti.size = 1) (hby : ti.bytes = 1)
    {len' : Nat} {ys : List Value} (hlen' : len + p.length = len') (hys : xs ++ bytesL p = ys) (h63 : len' ≤ 140737488355328)
    (next : ∀ oa cap w', St w0 M (setNth hs i (frn M w0.heap.size E (.slice oa len' cap) len' ys)) w' → vN n N ((d, .slice oa len' cap) :: kn) w') :
    vS P n L Q ⟨some d, .call ⟨.builtin .append, #[x, y], #[T, U]⟩, ty, pos, aft, g⟩ N kn w := by
  subst hlen' hys
  obtain ⟨v', w', hr, ho, hg, hat⟩ := app_str (P := P) (tyy := ty) 0 ht hu hinfo hz hsize hby (st.res hi).1.1 p (by unfold maxLen; omega) h63 (Nat.zero_le _)
  obtain ⟨oa, cap, rfl⟩ := slice_form ho
  refine e_bi [v, str p] hw hd (by simp [hx, hy]) (w' := w') (fun cs => ?_) (next oa cap w' (st.appF hi hg ho hat))
  simp only [builtin, Sem.run_bind, List.toArray, hr]
  rfl

/-- append(v, x) to a row that is another's: a row of new cells that is held -/
theorem e_appF (st : St w0 M hs w) (i j : Nat) {T E bytes m len c b : Nat} {x y : Operand} {v z : Value} {xs l : List Value} {fz : Nat × Nat} {ti : TypeInfo} (hw : gd L kn g = some true) (hd : okDst n (some d) = true)
    (hx : evO kn x = some v) (hy : evO kn y = some (.slice (some ⟨b, 0, none⟩) m c)) (hi : nth hs i = some (frn M w0.heap.size E v len xs)) (hj : nth hs j = some (.blk b (.cells l.toArray E fz)))
    (ht : P.underlying T = some (.slice E)) (hinfo : P.info? E = some ti) (hz : ti.zero = some z) (hsize : ti.size = 1) (hby : ti.bytes = bytes) (hzs : z.cells.size = 1)
    (hl : l.length = m * 1) (h1 : allOne l = true) (hm : Nat.blt 0 m = true) (h63 : len + m ≤ maxLen) (hbytes : (len + m) * bytes ≤ 140737488355328) {len' : Nat} {ys : List Value} (hlen' : len + m = len') (hys : xs ++ l = ys)
    (next : ∀ oa cap w', St w0 M (setNth hs i (frn M w0.heap.size E (.slice oa len' cap) len' ys)) w' → vN n N ((d, .slice oa len' cap) :: kn) w') :
    vS P n L Q ⟨some d, .call ⟨.builtin .append, #[x, y], #[T, T]⟩, ty, pos, aft, g⟩ N kn w := by
  subst hlen' hys
  have hb : w.heap[b]? = some (.cells l.toArray E fz) := st.res hj
  have hm' : 0 < m := by simpa [Nat.blt_eq] using hm
  obtain ⟨v', w', hr, hown, hg, hnil, hat⟩ := run_append_own_at (P := P) w 0 T ty E ti z 1 bytes ht hinfo hz hsize hby hzs (by omega) v len xs (st.res hi).1.1 ⟨b, 0, none⟩ m c l hl
    (fun k u hk => by rw [addr_add]; exact cell_blk hb (by rw [nth_eq]; simpa using hk)) (allOne_spec h1) h63 hbytes (Nat.zero_le _)
  obtain ⟨oa, cap, rfl⟩ := slice_form hown
  refine e_bi [v, .slice (some ⟨b, 0, none⟩) m c] hw hd (by simp [hx, hy]) (w' := w') (fun cs => ?_) (next oa cap w' (st.appF hi hg hown (fun k hk => by
    rcases hat with h | h
    · rw [h] at hk; exact .inl hk
    · rw [h] at hk; simp at hk; exact .inr (by omega))))
  simp only [builtin, Sem.run_bind, List.toArray, hr]
  rfl

/-! ## the text -/
/-- what lies there tells of the text: all of it, or that it is too long -/
def WS (l : List UInt8) (many : Bool) (F : List UInt8) : Prop := (many = false ∧ l = F ∧ F.length ≤ 65536) ∨ (many = true ∧ 65536 < F.length ∧ l.length ≤ 65536)
theorem WS.le {l F : List UInt8} {m : Bool} (h : WS l m F) : l.length ≤ 65536 := by
  rcases h with ⟨_, rfl, h⟩ | ⟨_, _, h⟩ <;> exact h
theorem WS.over {l F : List UInt8} (h : WS l true F) (G : List UInt8) : WS l true (F ++ G) := by
  rcases h with ⟨h, _⟩ | ⟨_, h1, h2⟩
  · cases h
  · exact .inr ⟨rfl, by simp; omega, h2⟩
theorem WS.put {l F : List UInt8} (h : WS l false F) {G : List UInt8} (hG : l.length + G.length ≤ 65536) : WS (l ++ G) false (F ++ G) := by
  rcases h with ⟨_, rfl, h⟩ | ⟨h, _⟩
  · exact .inl ⟨rfl, rfl, by simpa using hG⟩
  · cases h
theorem WS.no {l F : List UInt8} (h : WS l false F) {G : List UInt8} (hG : 65536 < l.length + G.length) : WS l true (F ++ G) := by
  rcases h with ⟨_, rfl, h⟩ | ⟨h, _⟩
  · exact .inr ⟨rfl, by simpa using hG, h⟩
  · cases h
theorem WS.no' {l F : List UInt8} {m : Bool} (h : WS l m F) (hm : m = false) {G : List UInt8} (hG : 65536 < l.length + G.length) : WS l true (F ++ G) := by subst hm; exact h.no hG
/-- another text that is too long as well -/
theorem WS.swap {l F G G' : List UInt8} {m : Bool} (h : WS l m (F ++ G')) (hG : G' = G ∨ 65536 < G'.length ∧ 65536 < G.length) : WS l m (F ++ G) := by
  rcases hG with rfl | ⟨h1, h2⟩
  · exact h
  · rcases h with ⟨_, rfl, h⟩ | ⟨rfl, _, h⟩
    · simp at h; omega
    · exact .inr ⟨rfl, by simp; omega, h⟩
def Wr (E n0 T bw : Nat) (v : Value) (F : List UInt8) (w : World) : Prop := ∃ l many, w.heap[bw]? = some (.cells #[v, .bool many] T (0, 0)) ∧ w.ownsRow 0 E 1 v l.length (bytesL l) ∧ WS l many F ∧ n0 ≤ bw ∧ ∀ k, v.ownBlock = some k → n0 ≤ k ∧ k ≠ bw
def WrP (E n0 T bw : Nat) (v : Value) (F : List UInt8) (w w' : World) : Prop := ∃ v', Wr E n0 T bw v' F w' ∧ Chg (bw :: v.ownBlock.toList) w w' ∧ ∀ k, v'.ownBlock = some k → v.ownBlock = some k ∨ w.heap.size ≤ k
def wrR (M : List Nat) (base E n0 T bw : Nat) (v : Value) (F : List UInt8) : Res := .tree (bw :: v.ownBlock.toList) fun w => Wr E n0 T bw v F w ∧ (bw ∈ M ∨ base ≤ bw) ∧ ∀ k, v.ownBlock = some k → k ∈ M ∨ base ≤ k
variable {E n0 T bw : Nat} {v : Value} {F : List UInt8}
theorem Wr.lt (h : Wr E n0 T bw v F w) : ∀ k ∈ bw :: v.ownBlock.toList, k < w.heap.size := by
  obtain ⟨l, many, hb, ho, hws, h1, h2⟩ := h
  intro k hk
  rcases List.mem_cons.1 hk with rfl | hk
  · exact (Array.getElem?_eq_some_iff.1 hb).1
  · exact (World.ownsRow.lt ho k (by simpa using hk)).2
theorem Wr.loc : Loc (bw :: v.ownBlock.toList) (Wr E n0 T bw v F) := by
  intro a b hs hk ⟨l, many, hb, ho, hr⟩
  exact ⟨l, many, by rw [hk bw (.head _)]; exact hb, loc_owns E _ v _ a b hs (fun k h => hk k (.tail _ h)) ho, hr⟩
theorem wrR_holds {base' base : Nat} (h : Wr E n0 T bw v F w) (hb : bw ∈ M ∨ base ≤ bw) (hm : ∀ k, v.ownBlock = some k → k ∈ M ∨ base ≤ k) : (wrR M base E n0 T bw v F).holds base' w :=
  ⟨⟨h, hb, hm⟩, h.lt, fun a b hs hk h => ⟨Wr.loc a b hs hk h.1, h.2⟩⟩
theorem St.wrInit (h : Wr E n0 T bw v F w) : St w (bw :: v.ownBlock.toList) [wrR (bw :: v.ownBlock.toList) w.heap.size E n0 T bw v F] w :=
  ⟨Chg.refl _ _, List.pairwise_singleton _ _, by
    intro r hr
    simp only [List.mem_singleton] at hr
    subst hr
    exact wrR_holds h (.inl (.head _)) (fun k hk => .inl (.tail _ (Option.mem_toList.2 hk)))⟩
/-- a callee has written -/
theorem St.wr (st : St w0 M hs w) {i : Nat} {F' : List UInt8} (hi : nth hs i = some (wrR M w0.heap.size E n0 T bw v F)) (p : WrP E n0 T bw v F' w w') : ∃ v', St w0 M (setNth hs i (wrR M w0.heap.size E n0 T bw v' F')) w' := by
  obtain ⟨v', h1, h2, h3⟩ := p
  obtain ⟨⟨k1, k2, k3⟩, -⟩ := st.res hi
  refine ⟨v', st.swap hi h2 (by simp [Res.at?, wrR]) (fun k hk => ?_) (fun k hk => ?_) (wrR_holds h1 k2 fun k hk => ?_)⟩
  · rcases List.mem_cons.1 hk with rfl | hk
    · exact k2
    · exact k3 k (by simpa using hk)
  · simp only [Res.at?, wrR, List.mem_cons, Option.mem_toList] at hk ⊢
    rcases hk with rfl | hk
    · exact .inl (.inl rfl)
    · exact (h3 k hk).imp .inr id
  · rcases h3 k hk with h | h
    · exact k3 k h
    · exact .inr (Nat.le_trans st.chg.size h)
theorem St.wrGet (st : St w0 M hs w) {i : Nat} (hi : nth hs i = some (wrR M w0.heap.size E n0 T bw v F)) : Wr E n0 T bw v F w := (st.res hi).1.1
/-- the callee is done -/
theorem St.wrDone {v0 : Value} (st : St w0 (bw :: v0.ownBlock.toList) hs w) {i : Nat} (hi : nth hs i = some (wrR (bw :: v0.ownBlock.toList) w0.heap.size E n0 T bw v F)) : WrP E n0 T bw v0 F w0 w := by
  obtain ⟨⟨k1, k2, k3⟩, -⟩ := st.res hi
  refine ⟨v, k1, st.chg, fun k hk => ?_⟩
  obtain ⟨l, many, hb, ho, hws, h1, h2⟩ := k1
  rcases k3 k hk with h | h
  · rcases List.mem_cons.1 h with rfl | h
    · exact absurd rfl (h2 _ hk).2
    · exact .inl (by simpa using h)
  · exact .inr h
/-- what lies in other blocks stays -/
theorem Wr.same (h : Wr E n0 T bw v F w) (c : Chg (bw :: v.ownBlock.toList) w w') : w.heap.size ≤ w'.heap.size ∧ ∀ b, b < n0 → b < w.heap.size → w'.heap[b]? = w.heap[b]? := by
  obtain ⟨l, many, hb, ho, hws, h1, h2⟩ := h
  refine ⟨c.size, fun b hb hl => c.block b hl fun hk => ?_⟩
  rcases List.mem_cons.1 hk with rfl | hk
  · omega
  · have := (h2 b (by simpa using hk)).1; omega
theorem Wr.notin (h : Wr E n0 T bw v F w) {b : Nat} (hb : b < n0) : b ∉ bw :: v.ownBlock.toList := by
  obtain ⟨l, many, hc, ho, hws, h1, h2⟩ := h
  intro hk
  rcases List.mem_cons.1 hk with rfl | hk
  · omega
  · have := (h2 b (by simpa using hk)).1; omega
theorem WrP.re {F' : List UInt8} (p : WrP E n0 T bw v F w w') (h : ∀ l m v', w'.heap[bw]? = some (.cells #[v', .bool m] T (0, 0)) → WS l m F → WS l m F') : WrP E n0 T bw v F' w w' := by
  obtain ⟨v', ⟨l, m, hb, ho, hws, hr⟩, h2⟩ := p
  exact ⟨v', ⟨l, m, hb, ho, h l m v' hb hws, hr⟩, h2⟩
theorem WrP.eq {F' : List UInt8} (p : WrP E n0 T bw v F w w') (h : F = F') : WrP E n0 T bw v F' w w' := h ▸ p
/-- the text is too long already -/
theorem WrP.over {G : List UInt8} (p : WrP E n0 T bw v F w w') {v1 : Value} (h : w'.heap[bw]? = some (.cells #[v1, .bool true] T (0, 0))) : WrP E n0 T bw v (F ++ G) w w' :=
  p.re fun l m v' hb hws => by
    rw [h] at hb
    simp only [Option.some.injEq, Obj.cells.injEq, Array.mk.injEq, List.cons.injEq, Value.bool.injEq, and_true] at hb
    rw [← hb.2] at hws ⊢
    exact hws.over G
/-- the struct and its row apart -/
theorem St.wrOpen (h : Wr E n0 T bw v F w) : ∃ l many oa cap, v = .slice oa l.length cap ∧ WS l many F ∧ n0 ≤ bw ∧ (∀ k, v.ownBlock = some k → n0 ≤ k ∧ k ≠ bw) ∧
    St w (bw :: v.ownBlock.toList) [.blk bw (.cells [.slice oa l.length cap, .bool many].toArray T (0, 0)), frn (bw :: v.ownBlock.toList) w.heap.size E (.slice oa l.length cap) l.length (bytesL l)] w := by
  obtain ⟨l, many, hb, ho, hws, h1, h2⟩ := h
  obtain ⟨oa, cap, rfl⟩ := slice_form ho
  refine ⟨l, many, oa, cap, rfl, hws, h1, h2, Chg.refl _ _, ?_, ?_⟩
  · refine List.pairwise_cons.2 ⟨fun s hs k hk hk' => ?_, List.pairwise_singleton _ _⟩
    simp only [List.mem_singleton] at hs
    subst hs
    simp only [Res.at?, List.mem_singleton] at hk
    subst hk
    simp only [Res.at?, frn, Option.mem_toList] at hk'
    exact (h2 _ hk').2 rfl
  · intro r hr
    simp only [List.mem_cons, List.not_mem_nil, or_false] at hr
    rcases hr with rfl | rfl
    · exact hb
    · exact frn_holds ho (fun k hk => .inl (.tail _ (Option.mem_toList.2 hk)))
/-- and together again, at the end -/
theorem St.wrClose {l : List UInt8} {many : Bool} {oa : Option Addr} {len cap : Nat} {v0 : Value} {i j : Nat} (st : St w0 (bw :: v0.ownBlock.toList) hs w) (hi : nth hs i = some (.blk bw (.cells [.slice oa len cap, .bool many].toArray T (0, 0))))
    (hj : nth hs j = some (frn (bw :: v0.ownBlock.toList) w0.heap.size E (.slice oa len cap) len (bytesL l))) (hl : l.length = len) (hws : WS l many F) (hn : n0 ≤ bw) (h0 : ∀ k, v0.ownBlock = some k → n0 ≤ k ∧ k ≠ bw) (hbw : bw < w0.heap.size) (hw : n0 ≤ w0.heap.size) : WrP E n0 T bw v0 F w0 w := by
  subst hl
  have hb : w.heap[bw]? = some (.cells #[.slice oa l.length cap, .bool many] T (0, 0)) := st.res hi
  obtain ⟨⟨ho, hm⟩, -⟩ := st.res hj
  have key : ∀ k, (Value.slice oa l.length cap).ownBlock = some k → (v0.ownBlock = some k ∨ w0.heap.size ≤ k) ∧ n0 ≤ k ∧ k ≠ bw := by
    intro k hk
    have hne : k ≠ bw := by
      intro e
      have hij : i ≠ j := by
        rintro rfl
        rw [hi] at hj
        cases hj
      exact (apart_nth st.nodup hij hi hj) bw (.head _) (Option.mem_toList.2 (e ▸ hk))
    rcases hm k hk with h | h
    · rcases List.mem_cons.1 h with rfl | h
      · exact absurd rfl hne
      · have h' : v0.ownBlock = some k := by simpa using h
        exact ⟨.inl h', (h0 k h').1, hne⟩
    · exact ⟨.inr h, by omega, hne⟩
  exact ⟨.slice oa l.length cap, ⟨l, many, hb, ho, hws, hn, fun k hk => (key k hk).2⟩, st.chg, fun k hk => (key k hk).1⟩
/-- an empty text -/
theorem St.wrNew (st : St w0 M (.blk bw (.cells [.slice none 0 0, .bool false].toArray T (0, 0)) :: hs) w) (hb : w0.heap.size ≤ bw) (hn : n0 ≤ w0.heap.size) : St w0 M (wrR M w0.heap.size E n0 T bw (.slice none 0 0) [] :: hs) w := by
  have h : w.heap[bw]? = some (.cells #[.slice none 0 0, .bool false] T (0, 0)) := st.res (i := 0) rfl
  refine st.turn0 (fun k hk => by simpa [Res.at?, wrR, Value.ownBlock] using hk) (wrR_holds ⟨[], false, h, World.ownsRow_nil w 0 E 1, .inl ⟨rfl, rfl, by simp⟩, by omega, fun k hk => by simp [Value.ownBlock] at hk⟩ (.inr hb) fun k hk => by simp [Value.ownBlock] at hk)
end
end Sx


namespace Go.Proofs.YtnmhlpnapgojjaaDoor
open Go.RowKit Sx LexS
set_option linter.unusedVariables false
set_option linter.unusedSimpArgs false
theorem Tryd.info5 : Tryd.prog.info? 5 = some Tryd.t5 := by kernel_rfl
section
variable {n0 : Nat}
theorem ptr_cell {w : World} {bw T : Nat} {v : Value} {m : Bool} (h : w.heap[bw]? = some (.cells #[v, .bool m] T (0, 0))) : w.cell? ⟨bw, 1, none⟩ = some (.bool m) := cell_nth (l := [v, .bool m]) h rfl

end
end Go.Proofs.YtnmhlpnapgojjaaDoor


namespace Go.Proofs.YtnmhlpnapgojjaaDoor
open Go.RowKit Sx LexS
set_option linter.unusedVariables false
set_option linter.unusedSimpArgs false
section
variable {S : Nat → Prop}

end
end Go.Proofs.YtnmhlpnapgojjaaDoor


namespace Go.Proofs.YtnmhlpnapgojjaaDoor
open Go.RowKit Sx LexS
set_option linter.unusedVariables false
set_option linter.unusedSimpArgs false
section
variable {n0 : Nat}
theorem rightE_inv3 {e : Ex} {d : Nat} (h : rightE e d = true) (hk : e.k = 3) : ∃ x, e.kids = [x] ∧ ∃ d', rightE x d' = true := by
  have hd := rightE_le h
  by_cases h1 : e.kids.length = 1
  · obtain ⟨x, hx⟩ := get0 h1 (by omega)
    refine ⟨x, one_form h1 hx, ?_⟩
    rw [rightE_3 hk hd (one_form h1 hx)] at h
    simp only [Bool.and_eq_true] at h
    exact ⟨_, h.2⟩
  · rw [rightE_3n hk (.inl h1)] at h; cases h
theorem rightE_inv4 {e : Ex} {d : Nat} (h : rightE e d = true) (hk : e.k = 4) : ∃ x y, e.kids = [x, y] ∧ (∃ d', rightE x d' = true) ∧ ∃ d', rightE y d' = true := by
  have hd := rightE_le h
  by_cases h1 : e.kids.length = 2
  · obtain ⟨x, hx⟩ := get0 h1 (by omega)
    obtain ⟨y, hy⟩ := get1 h1
    refine ⟨x, y, two_form h1 hx hy, ?_⟩
    rw [rightE_4 hk hd (two_form h1 hx hy)] at h
    simp only [Bool.and_eq_true] at h
    exact ⟨⟨_, h.2.1⟩, ⟨_, h.2.2⟩⟩
  · rw [rightE_4n hk (.inl h1)] at h; cases h
theorem rightE_kind {e : Ex} {d : Nat} (h : rightE e d = true) : e.k = 1 ∨ e.k = 2 ∨ e.k = 3 ∨ e.k = 4 := by
  by_cases h1 : e.k = 1
  · exact .inl h1
  by_cases h2 : e.k = 2
  · exact .inr (.inl h2)
  by_cases h3 : e.k = 3
  · exact .inr (.inr (.inl h3))
  by_cases h4 : e.k = 4
  · exact .inr (.inr (.inr h4))
  rw [rightE_0 h1 h2 h3 h4] at h; cases h
theorem isName_le {l : List UInt8} (h : isName l = true) : l.length ≤ 32 := by
  rcases Nat.lt_or_ge 32 l.length with h1 | h1
  · rw [isName_long h1] at h; cases h
  · exact h1
theorem txtE_1 {e : Ex} (h : e.k = 1) : txtE e = shw e.wd := by
  cases e; simp only [Ex.k] at h; subst h; rw [txtE.eq_def]; simp [Ex.wd]
theorem txtE_2 {e : Ex} (h : e.k = 2) : txtE e = e.nm := by
  cases e; simp only [Ex.k] at h; subst h; rw [txtE.eq_def]; simp [Ex.nm]
theorem txtE_3 {e x : Ex} (h : e.k = 3) (hx : e.kids = [x]) : txtE e = shwO e.op ++ par (decide (x.k = 4)) (txtE x) := by
  cases e with
  | mk k op wd nm kids a => change k = 3 at h; change kids = [x] at hx; subst h hx; rw [txtE]; simp [Ex.op]
theorem txtE_4 {e x y : Ex} (h : e.k = 4) (hx : e.kids = [x, y]) : txtE e = par (inn e.op x false) (txtE x) ++ ([32] ++ shwO e.op ++ [32]) ++ par (inn e.op y true) (txtE y) := by
  cases e with
  | mk k op wd nm kids a => change k = 4 at h; change kids = [x, y] at hx; subst h hx; rw [txtE]; simp [Ex.op]
theorem shw_le (x : Int) (h : i64 x) : (shw x).length ≤ 20 := by
  unfold i64 at h
  have h1 := dec_len 18 x.natAbs (by simp only [Nat.reducePow, Nat.reduceAdd]; omega)
  unfold shw
  split
  · simp only [List.length_cons]; omega
  · omega

end
end Go.Proofs.YtnmhlpnapgojjaaDoor


/- The engine, seventeenth part: a byte slice in a box that a closure holds. -/
namespace Sx
open Go Go.RowKit
set_option linter.unusedVariables false
set_option linter.unusedSimpArgs false
section
variable {w0 w w' : World} {M : List Nat} {hs : List Res} {E n0 T b n n' : Nat} {v v' : Value} {l l' : List UInt8} {xs xs' : List Value}

/-- a row that a callee has written on -/
def RowP (E : Nat) (v v' : Value) (n' : Nat) (xs' : List Value) (w w' : World) : Prop := w'.ownsRow 0 E 1 v' n' xs' ∧ Chg v.ownBlock.toList w w' ∧ ∀ k, v'.ownBlock = some k → v.ownBlock = some k ∨ w.heap.size ≤ k
theorem St.frnP (st : St w0 M hs w) {i : Nat} (hi : nth hs i = some (frn M w0.heap.size E v n xs)) (p : RowP E v v' n' xs' w w') : St w0 M (setNth hs i (frn M w0.heap.size E v' n' xs')) w' := by
  obtain ⟨⟨h1, h2⟩, -⟩ := st.res hi
  obtain ⟨p1, p2, p3⟩ := p
  refine st.swap hi p2 (by simp [Res.at?, frn]) (fun k hk => h2 k (by simpa using hk)) (fun k hk => ?_) (frn_holds p1 fun k hk => ?_)
  · simp only [Res.at?, frn, Option.mem_toList] at hk ⊢
    exact p3 k hk
  · rcases p3 k hk with h | h
    · exact h2 k h
    · exact .inr (Nat.le_trans st.chg.size h)
theorem St.frnInit (h : w.ownsRow 0 E 1 v n xs) : St w v.ownBlock.toList [frn v.ownBlock.toList w.heap.size E v n xs] w :=
  ⟨Chg.refl _ _, List.pairwise_singleton _ _, by
    intro r hr
    simp only [List.mem_singleton] at hr
    subst hr
    exact frn_holds h (fun k hk => .inl (Option.mem_toList.2 hk))⟩
theorem St.frnDone {v0 : Value} (st : St w0 v0.ownBlock.toList hs w) {i : Nat} (hi : nth hs i = some (frn v0.ownBlock.toList w0.heap.size E v n xs)) : RowP E v0 v n xs w0 w := by
  obtain ⟨⟨h1, h2⟩, -⟩ := st.res hi
  exact ⟨h1, st.chg, fun k hk => (h2 k hk).imp (fun h => by simpa using h) id⟩
theorem St.frnGet (st : St w0 M hs w) {i : Nat} (hi : nth hs i = some (frn M w0.heap.size E v n xs)) : w.ownsRow 0 E 1 v n xs := (st.res hi).1.1

theorem St.frnN (st : St w0 M hs w) {i : Nat} (hi : nth hs i = some (frn M w0.heap.size E v n xs)) (hM : ∀ k ∈ M, n0 ≤ k) (hn : n0 ≤ w0.heap.size) : ∀ k, v.ownBlock = some k → n0 ≤ k := fun k hk => by
  rcases (st.res hi).1.2 k hk with h | h
  · exact hM k h
  · omega
theorem St.split2 {q r s : Res} (st : St w0 M (q :: hs) w) (h1 : ∀ k ∈ r.at?, k ∈ q.at?) (h2 : ∀ k ∈ s.at?, k ∈ q.at?) (h3 : ∀ k ∈ r.at?, k ∉ s.at?) (hr : r.holds w0.heap.size w) (hs' : s.holds w0.heap.size w) : St w0 M (r :: s :: hs) w := by
  have hnd := List.pairwise_cons.1 st.nodup
  refine ⟨st.chg, List.pairwise_cons.2 ⟨fun x hx => ?_, List.pairwise_cons.2 ⟨fun x hx k hk => hnd.1 x hx k (h2 k hk), hnd.2⟩⟩, fun x hx => ?_⟩
  · rcases List.mem_cons.1 hx with rfl | hx
    · exact h3
    · exact fun k hk => hnd.1 x hx k (h1 k hk)
  · rcases List.mem_cons.1 hx with rfl | hx
    · exact hr
    · rcases List.mem_cons.1 hx with rfl | hx
      · exact hs'
      · exact st.here x (.tail _ hx)

def Bx (E n0 T b : Nat) (v : Value) (l : List UInt8) (w : World) : Prop := w.heap[b]? = some (.cells #[v] T (0, 0)) ∧ w.ownsRow 0 E 1 v l.length (bytesL l) ∧ n0 ≤ b ∧ ∀ k, v.ownBlock = some k → n0 ≤ k ∧ k ≠ b
def BxP (E n0 T b : Nat) (v v' : Value) (l' : List UInt8) (w w' : World) : Prop := Bx E n0 T b v' l' w' ∧ Chg (b :: v.ownBlock.toList) w w' ∧ ∀ k, v'.ownBlock = some k → v.ownBlock = some k ∨ w.heap.size ≤ k
theorem Bx.loc : Loc (b :: v.ownBlock.toList) (Bx E n0 T b v l) := by
  intro a c hs hk ⟨hb, ho, hr⟩
  exact ⟨by rw [hk b (.head _)]; exact hb, loc_owns E _ v _ a c hs (fun k h => hk k (.tail _ h)) ho, hr⟩
theorem Bx.lt (h : Bx E n0 T b v l w) : ∀ k ∈ b :: v.ownBlock.toList, k < w.heap.size := by
  obtain ⟨hb, ho, h1, h2⟩ := h
  intro k hk
  rcases List.mem_cons.1 hk with rfl | hk
  · exact (Array.getElem?_eq_some_iff.1 hb).1
  · exact (World.ownsRow.lt ho k (by simpa using hk)).2
theorem Bx.notin (h : Bx E n0 T b v l w) {k : Nat} (hk : k < n0) : k ∉ b :: v.ownBlock.toList := by
  obtain ⟨hb, ho, h1, h2⟩ := h
  intro h
  rcases List.mem_cons.1 h with rfl | h
  · omega
  · have := (h2 k (by simpa using h)).1; omega
/-- the box and its row, of the heads of what is held -/
theorem St.bxGet (st : St w0 M (.blk b (.cells [v].toArray T (0, 0)) :: frn M w0.heap.size E v l.length (bytesL l) :: hs) w) (hb : n0 ≤ b) (hn : ∀ k, v.ownBlock = some k → n0 ≤ k) : Bx E n0 T b v l w := by
  have h1 : w.heap[b]? = some (.cells #[v] T (0, 0)) := st.res (i := 0) rfl
  refine ⟨h1, (st.res (i := 1) rfl).1.1, hb, fun k hk => ⟨hn k hk, fun e => ?_⟩⟩
  subst e
  exact apart_nth (i := 0) (j := 1) st.nodup (by simp) rfl rfl k (.head _) (Option.mem_toList.2 hk)
theorem St.bxCall (st : St w0 M (.blk b (.cells [v].toArray T (0, 0)) :: frn M w0.heap.size E v l.length (bytesL l) :: hs) w) (hm : b ∈ M ∨ w0.heap.size ≤ b) (p : BxP E n0 T b v v' l' w w') :
    St w0 M (.blk b (.cells [v'].toArray T (0, 0)) :: frn M w0.heap.size E v' l'.length (bytesL l') :: hs) w' ∧ ∀ k, v'.ownBlock = some k → n0 ≤ k := by
  obtain ⟨⟨q1, q2, q3, q4⟩, p2, p3⟩ := p
  have h1 : w.heap[b]? = some (.cells #[v] T (0, 0)) := st.res (i := 0) rfl
  obtain ⟨⟨h2, h3⟩, -⟩ := st.res (i := 1) rfl
  have hb : b < w.heap.size := (Array.getElem?_eq_some_iff.1 h1).1
  have st1 := st.join (q := .tree (b :: v.ownBlock.toList) (fun _ => True)) (fun k hk => (List.mem_cons.1 hk).imp (fun h => by simp [Res.at?, h]) id) ⟨trivial, fun k hk => by
    rcases List.mem_cons.1 hk with rfl | hk
    · exact hb
    · exact (World.ownsRow.lt h2 k (by simpa using hk)).2, fun _ _ _ _ _ => trivial⟩
  have hlt : ∀ k ∈ b :: v'.ownBlock.toList, k < w'.heap.size := Bx.lt (n0 := n0) (l := l') ⟨q1, q2, q3, q4⟩
  have st2 := st1.swap (i := 0) (r' := .tree (b :: v'.ownBlock.toList) (fun _ => True)) rfl p2 (fun k hk => hk) (fun k hk => by
    rcases List.mem_cons.1 hk with rfl | hk
    · exact hm
    · exact h3 k (by simpa using hk)) (fun k hk => by
    rcases List.mem_cons.1 hk with rfl | hk
    · exact .inl (.head _)
    · exact (p3 k (by simpa using hk)).imp (fun h => .tail _ (Option.mem_toList.2 h)) id) ⟨trivial, hlt, fun _ _ _ _ _ => trivial⟩
  refine ⟨st2.split2 (fun k hk => by simp only [Res.at?, List.mem_singleton] at hk; subst hk; exact .head _) (fun k hk => .tail _ hk) (fun k hk hk' => ?_) q1 (frn_holds q2 fun k hk => ?_), fun k hk => (q4 k hk).1⟩
  · simp only [Res.at?, List.mem_singleton] at hk
    subst hk
    exact (q4 k (Option.mem_toList.1 hk')).2 rfl
  · rcases p3 k hk with h | h
    · exact h3 k h
    · exact .inr (Nat.le_trans st.chg.size h)
theorem St.bxInit (h : Bx E n0 T b v l w) : St w (b :: v.ownBlock.toList) [.blk b (.cells [v].toArray T (0, 0)), frn (b :: v.ownBlock.toList) w.heap.size E v l.length (bytesL l)] w := by
  obtain ⟨hb, ho, h1, h2⟩ := h
  refine ⟨Chg.refl _ _, List.pairwise_cons.2 ⟨fun s hs k hk hk' => ?_, List.pairwise_singleton _ _⟩, ?_⟩
  · simp only [List.mem_singleton] at hs
    subst hs
    simp only [Res.at?, List.mem_singleton] at hk
    subst hk
    exact (h2 k (Option.mem_toList.1 hk')).2 rfl
  · intro r hr
    simp only [List.mem_cons, List.not_mem_nil, or_false] at hr
    rcases hr with rfl | rfl
    · exact hb
    · exact frn_holds ho (fun k hk => .inl (.tail _ (Option.mem_toList.2 hk)))
theorem St.bxDone {v0 : Value} {i j len : Nat} (st : St w0 (b :: v0.ownBlock.toList) hs w) (hi : nth hs i = some (.blk b (.cells [v].toArray T (0, 0)))) (hj : nth hs j = some (frn (b :: v0.ownBlock.toList) w0.heap.size E v len (bytesL l))) (hl : l.length = len)
    (hn : n0 ≤ b) (h0 : ∀ k, v0.ownBlock = some k → n0 ≤ k ∧ k ≠ b) (hw : n0 ≤ w0.heap.size) : BxP E n0 T b v0 v l w0 w := by
  subst hl
  have hb : w.heap[b]? = some (.cells #[v] T (0, 0)) := st.res hi
  obtain ⟨⟨ho, hm⟩, -⟩ := st.res hj
  have key : ∀ k, v.ownBlock = some k → (v0.ownBlock = some k ∨ w0.heap.size ≤ k) ∧ n0 ≤ k ∧ k ≠ b := by
    intro k hk
    have hne : k ≠ b := by
      intro e
      have hij : i ≠ j := by
        rintro rfl
        rw [hi] at hj
        cases hj
      exact (apart_nth st.nodup hij hi hj) b (.head _) (Option.mem_toList.2 (e ▸ hk))
    rcases hm k hk with h | h
    · rcases List.mem_cons.1 h with rfl | h
      · exact absurd rfl hne
      · have h' : v0.ownBlock = some k := by simpa using h
        exact ⟨.inl h', (h0 k h').1, hne⟩
    · exact ⟨.inr h, by omega, hne⟩
  exact ⟨⟨hb, ho, hn, fun k hk => (key k hk).2⟩, st.chg, fun k hk => (key k hk).1⟩
end
end Sx

