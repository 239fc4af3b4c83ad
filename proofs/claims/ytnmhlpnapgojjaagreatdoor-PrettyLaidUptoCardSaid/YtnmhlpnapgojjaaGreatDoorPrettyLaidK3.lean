/- A part of the proof: contracts of functions and plain laws; each theorem says its own conditions. -/
import Derived.Test.YtnmhlpnapgojjaaGreatDoorPrettyLaidAl
import Derived.Lib.Bytealg
import Derived.Test.YtnmhlpnapgojjaaGreatDoorRows
import Derived.Test.YtnmhlpnapgojjaaGreatDoorPrettyLaidK2
import Derived.Test.YtnmhlpnapgojjaaGreatDoorPrettyLaidK0
import Derived.Test.YtnmhlpnapgojjaaGreatDoorPrettyLaidK1
set_option linter.unusedVariables false
set_option linter.unusedSimpArgs false
/- Runs of steps that need no data: so many of them at once. -/
namespace Sx
open Go Go.RowKit
section
variable {P:Program} {n:Fr} {L:List Oper} {Q:Exit→Act→World→Prop} {kn:Kn} {w:World} {ops:List Oper} {c:Code}
theorem gL (h:vcL P n L Q ops kn w):vcL P n L Q ops kn w:=h
theorem gC (h:vcC P n c Q kn w):vcC P n c Q kn w:=h
end
section
variable {G G':Prop}
theorem a1 (h:G') (s:G'→G:=by intro h;(iterate 1 (first|with_reducible (first|refine zC5 ?_|refine zB4 ?_|refine zA6 ?_|refine zI6 ?_|refine zA5 ?_|refine zD6 ?_|refine zE0 ?_|refine zA8 ?_|refine zA ?_|refine zA4 ?_|refine zJ1 ?_|refine zB3 ?_|refine zC0 ?_)|(with_reducible refine gL ?_);(first|refine ym ?_|refine ya ?_|refine ypt ?_|refine ypf ?_|refine vsk ?_|refine ynk ?_|refine vy (zG5 rfl) ?_|refine vy (zK5 rfl rfl) ?_|refine vy (zR rfl rfl) ?_|refine vy (zM5 rfl rfl) ?_|refine vy (zT9 rfl rfl) ?_|refine vy (zT4 rfl rfl) ?_|refine vy (zT3 rfl rfl) ?_|refine vy (zN4 rfl rfl) ?_|refine vy (zY4 rfl rfl) ?_|refine vy (zV7 rfl rfl) ?_)|(with_reducible refine gC ?_);(first|refine zC9 rfl ?_|refine zM2 rfl ?_)|refine zD5 rfl ?_));exact h):G:=s h
theorem a2 (h:G') (s:G'→G:=by intro h;(iterate 2 (first|with_reducible (first|refine zC5 ?_|refine zB4 ?_|refine zA6 ?_|refine zI6 ?_|refine zA5 ?_|refine zD6 ?_|refine zE0 ?_|refine zA8 ?_|refine zA ?_|refine zA4 ?_|refine zJ1 ?_|refine zB3 ?_|refine zC0 ?_)|(with_reducible refine gL ?_);(first|refine ym ?_|refine ya ?_|refine ypt ?_|refine ypf ?_|refine vsk ?_|refine ynk ?_|refine vy (zG5 rfl) ?_|refine vy (zK5 rfl rfl) ?_|refine vy (zR rfl rfl) ?_|refine vy (zM5 rfl rfl) ?_|refine vy (zT9 rfl rfl) ?_|refine vy (zT4 rfl rfl) ?_|refine vy (zT3 rfl rfl) ?_|refine vy (zN4 rfl rfl) ?_|refine vy (zY4 rfl rfl) ?_|refine vy (zV7 rfl rfl) ?_)|(with_reducible refine gC ?_);(first|refine zC9 rfl ?_|refine zM2 rfl ?_)|refine zD5 rfl ?_));exact h):G:=s h
theorem a3 (h:G') (s:G'→G:=by intro h;(iterate 3 (first|with_reducible (first|refine zC5 ?_|refine zB4 ?_|refine zA6 ?_|refine zI6 ?_|refine zA5 ?_|refine zD6 ?_|refine zE0 ?_|refine zA8 ?_|refine zA ?_|refine zA4 ?_|refine zJ1 ?_|refine zB3 ?_|refine zC0 ?_)|(with_reducible refine gL ?_);(first|refine ym ?_|refine ya ?_|refine ypt ?_|refine ypf ?_|refine vsk ?_|refine ynk ?_|refine vy (zG5 rfl) ?_|refine vy (zK5 rfl rfl) ?_|refine vy (zR rfl rfl) ?_|refine vy (zM5 rfl rfl) ?_|refine vy (zT9 rfl rfl) ?_|refine vy (zT4 rfl rfl) ?_|refine vy (zT3 rfl rfl) ?_|refine vy (zN4 rfl rfl) ?_|refine vy (zY4 rfl rfl) ?_|refine vy (zV7 rfl rfl) ?_)|(with_reducible refine gC ?_);(first|refine zC9 rfl ?_|refine zM2 rfl ?_)|refine zD5 rfl ?_));exact h):G:=s h
theorem a4 (h:G') (s:G'→G:=by intro h;(iterate 4 (first|with_reducible (first|refine zC5 ?_|refine zB4 ?_|refine zA6 ?_|refine zI6 ?_|refine zA5 ?_|refine zD6 ?_|refine zE0 ?_|refine zA8 ?_|refine zA ?_|refine zA4 ?_|refine zJ1 ?_|refine zB3 ?_|refine zC0 ?_)|(with_reducible refine gL ?_);(first|refine ym ?_|refine ya ?_|refine ypt ?_|refine ypf ?_|refine vsk ?_|refine ynk ?_|refine vy (zG5 rfl) ?_|refine vy (zK5 rfl rfl) ?_|refine vy (zR rfl rfl) ?_|refine vy (zM5 rfl rfl) ?_|refine vy (zT9 rfl rfl) ?_|refine vy (zT4 rfl rfl) ?_|refine vy (zT3 rfl rfl) ?_|refine vy (zN4 rfl rfl) ?_|refine vy (zY4 rfl rfl) ?_|refine vy (zV7 rfl rfl) ?_)|(with_reducible refine gC ?_);(first|refine zC9 rfl ?_|refine zM2 rfl ?_)|refine zD5 rfl ?_));exact h):G:=s h
theorem a5 (h:G') (s:G'→G:=by intro h;(iterate 5 (first|with_reducible (first|refine zC5 ?_|refine zB4 ?_|refine zA6 ?_|refine zI6 ?_|refine zA5 ?_|refine zD6 ?_|refine zE0 ?_|refine zA8 ?_|refine zA ?_|refine zA4 ?_|refine zJ1 ?_|refine zB3 ?_|refine zC0 ?_)|(with_reducible refine gL ?_);(first|refine ym ?_|refine ya ?_|refine ypt ?_|refine ypf ?_|refine vsk ?_|refine ynk ?_|refine vy (zG5 rfl) ?_|refine vy (zK5 rfl rfl) ?_|refine vy (zR rfl rfl) ?_|refine vy (zM5 rfl rfl) ?_|refine vy (zT9 rfl rfl) ?_|refine vy (zT4 rfl rfl) ?_|refine vy (zT3 rfl rfl) ?_|refine vy (zN4 rfl rfl) ?_|refine vy (zY4 rfl rfl) ?_|refine vy (zV7 rfl rfl) ?_)|(with_reducible refine gC ?_);(first|refine zC9 rfl ?_|refine zM2 rfl ?_)|refine zD5 rfl ?_));exact h):G:=s h
theorem a6 (h:G') (s:G'→G:=by intro h;(iterate 6 (first|with_reducible (first|refine zC5 ?_|refine zB4 ?_|refine zA6 ?_|refine zI6 ?_|refine zA5 ?_|refine zD6 ?_|refine zE0 ?_|refine zA8 ?_|refine zA ?_|refine zA4 ?_|refine zJ1 ?_|refine zB3 ?_|refine zC0 ?_)|(with_reducible refine gL ?_);(first|refine ym ?_|refine ya ?_|refine ypt ?_|refine ypf ?_|refine vsk ?_|refine ynk ?_|refine vy (zG5 rfl) ?_|refine vy (zK5 rfl rfl) ?_|refine vy (zR rfl rfl) ?_|refine vy (zM5 rfl rfl) ?_|refine vy (zT9 rfl rfl) ?_|refine vy (zT4 rfl rfl) ?_|refine vy (zT3 rfl rfl) ?_|refine vy (zN4 rfl rfl) ?_|refine vy (zY4 rfl rfl) ?_|refine vy (zV7 rfl rfl) ?_)|(with_reducible refine gC ?_);(first|refine zC9 rfl ?_|refine zM2 rfl ?_)|refine zD5 rfl ?_));exact h):G:=s h
theorem a7 (h:G') (s:G'→G:=by intro h;(iterate 7 (first|with_reducible (first|refine zC5 ?_|refine zB4 ?_|refine zA6 ?_|refine zI6 ?_|refine zA5 ?_|refine zD6 ?_|refine zE0 ?_|refine zA8 ?_|refine zA ?_|refine zA4 ?_|refine zJ1 ?_|refine zB3 ?_|refine zC0 ?_)|(with_reducible refine gL ?_);(first|refine ym ?_|refine ya ?_|refine ypt ?_|refine ypf ?_|refine vsk ?_|refine ynk ?_|refine vy (zG5 rfl) ?_|refine vy (zK5 rfl rfl) ?_|refine vy (zR rfl rfl) ?_|refine vy (zM5 rfl rfl) ?_|refine vy (zT9 rfl rfl) ?_|refine vy (zT4 rfl rfl) ?_|refine vy (zT3 rfl rfl) ?_|refine vy (zN4 rfl rfl) ?_|refine vy (zY4 rfl rfl) ?_|refine vy (zV7 rfl rfl) ?_)|(with_reducible refine gC ?_);(first|refine zC9 rfl ?_|refine zM2 rfl ?_)|refine zD5 rfl ?_));exact h):G:=s h
theorem a8 (h:G') (s:G'→G:=by intro h;(iterate 8 (first|with_reducible (first|refine zC5 ?_|refine zB4 ?_|refine zA6 ?_|refine zI6 ?_|refine zA5 ?_|refine zD6 ?_|refine zE0 ?_|refine zA8 ?_|refine zA ?_|refine zA4 ?_|refine zJ1 ?_|refine zB3 ?_|refine zC0 ?_)|(with_reducible refine gL ?_);(first|refine ym ?_|refine ya ?_|refine ypt ?_|refine ypf ?_|refine vsk ?_|refine ynk ?_|refine vy (zG5 rfl) ?_|refine vy (zK5 rfl rfl) ?_|refine vy (zR rfl rfl) ?_|refine vy (zM5 rfl rfl) ?_|refine vy (zT9 rfl rfl) ?_|refine vy (zT4 rfl rfl) ?_|refine vy (zT3 rfl rfl) ?_|refine vy (zN4 rfl rfl) ?_|refine vy (zY4 rfl rfl) ?_|refine vy (zV7 rfl rfl) ?_)|(with_reducible refine gC ?_);(first|refine zC9 rfl ?_|refine zM2 rfl ?_)|refine zD5 rfl ?_));exact h):G:=s h
theorem a9 (h:G') (s:G'→G:=by intro h;(iterate 9 (first|with_reducible (first|refine zC5 ?_|refine zB4 ?_|refine zA6 ?_|refine zI6 ?_|refine zA5 ?_|refine zD6 ?_|refine zE0 ?_|refine zA8 ?_|refine zA ?_|refine zA4 ?_|refine zJ1 ?_|refine zB3 ?_|refine zC0 ?_)|(with_reducible refine gL ?_);(first|refine ym ?_|refine ya ?_|refine ypt ?_|refine ypf ?_|refine vsk ?_|refine ynk ?_|refine vy (zG5 rfl) ?_|refine vy (zK5 rfl rfl) ?_|refine vy (zR rfl rfl) ?_|refine vy (zM5 rfl rfl) ?_|refine vy (zT9 rfl rfl) ?_|refine vy (zT4 rfl rfl) ?_|refine vy (zT3 rfl rfl) ?_|refine vy (zN4 rfl rfl) ?_|refine vy (zY4 rfl rfl) ?_|refine vy (zV7 rfl rfl) ?_)|(with_reducible refine gC ?_);(first|refine zC9 rfl ?_|refine zM2 rfl ?_)|refine zD5 rfl ?_));exact h):G:=s h
theorem a10 (h:G') (s:G'→G:=by intro h;(iterate 10 (first|with_reducible (first|refine zC5 ?_|refine zB4 ?_|refine zA6 ?_|refine zI6 ?_|refine zA5 ?_|refine zD6 ?_|refine zE0 ?_|refine zA8 ?_|refine zA ?_|refine zA4 ?_|refine zJ1 ?_|refine zB3 ?_|refine zC0 ?_)|(with_reducible refine gL ?_);(first|refine ym ?_|refine ya ?_|refine ypt ?_|refine ypf ?_|refine vsk ?_|refine ynk ?_|refine vy (zG5 rfl) ?_|refine vy (zK5 rfl rfl) ?_|refine vy (zR rfl rfl) ?_|refine vy (zM5 rfl rfl) ?_|refine vy (zT9 rfl rfl) ?_|refine vy (zT4 rfl rfl) ?_|refine vy (zT3 rfl rfl) ?_|refine vy (zN4 rfl rfl) ?_|refine vy (zY4 rfl rfl) ?_|refine vy (zV7 rfl rfl) ?_)|(with_reducible refine gC ?_);(first|refine zC9 rfl ?_|refine zM2 rfl ?_)|refine zD5 rfl ?_));exact h):G:=s h
theorem a11 (h:G') (s:G'→G:=by intro h;(iterate 11 (first|with_reducible (first|refine zC5 ?_|refine zB4 ?_|refine zA6 ?_|refine zI6 ?_|refine zA5 ?_|refine zD6 ?_|refine zE0 ?_|refine zA8 ?_|refine zA ?_|refine zA4 ?_|refine zJ1 ?_|refine zB3 ?_|refine zC0 ?_)|(with_reducible refine gL ?_);(first|refine ym ?_|refine ya ?_|refine ypt ?_|refine ypf ?_|refine vsk ?_|refine ynk ?_|refine vy (zG5 rfl) ?_|refine vy (zK5 rfl rfl) ?_|refine vy (zR rfl rfl) ?_|refine vy (zM5 rfl rfl) ?_|refine vy (zT9 rfl rfl) ?_|refine vy (zT4 rfl rfl) ?_|refine vy (zT3 rfl rfl) ?_|refine vy (zN4 rfl rfl) ?_|refine vy (zY4 rfl rfl) ?_|refine vy (zV7 rfl rfl) ?_)|(with_reducible refine gC ?_);(first|refine zC9 rfl ?_|refine zM2 rfl ?_)|refine zD5 rfl ?_));exact h):G:=s h
theorem a12 (h:G') (s:G'→G:=by intro h;(iterate 12 (first|with_reducible (first|refine zC5 ?_|refine zB4 ?_|refine zA6 ?_|refine zI6 ?_|refine zA5 ?_|refine zD6 ?_|refine zE0 ?_|refine zA8 ?_|refine zA ?_|refine zA4 ?_|refine zJ1 ?_|refine zB3 ?_|refine zC0 ?_)|(with_reducible refine gL ?_);(first|refine ym ?_|refine ya ?_|refine ypt ?_|refine ypf ?_|refine vsk ?_|refine ynk ?_|refine vy (zG5 rfl) ?_|refine vy (zK5 rfl rfl) ?_|refine vy (zR rfl rfl) ?_|refine vy (zM5 rfl rfl) ?_|refine vy (zT9 rfl rfl) ?_|refine vy (zT4 rfl rfl) ?_|refine vy (zT3 rfl rfl) ?_|refine vy (zN4 rfl rfl) ?_|refine vy (zY4 rfl rfl) ?_|refine vy (zV7 rfl rfl) ?_)|(with_reducible refine gC ?_);(first|refine zC9 rfl ?_|refine zM2 rfl ?_)|refine zD5 rfl ?_));exact h):G:=s h
theorem a13 (h:G') (s:G'→G:=by intro h;(iterate 13 (first|with_reducible (first|refine zC5 ?_|refine zB4 ?_|refine zA6 ?_|refine zI6 ?_|refine zA5 ?_|refine zD6 ?_|refine zE0 ?_|refine zA8 ?_|refine zA ?_|refine zA4 ?_|refine zJ1 ?_|refine zB3 ?_|refine zC0 ?_)|(with_reducible refine gL ?_);(first|refine ym ?_|refine ya ?_|refine ypt ?_|refine ypf ?_|refine vsk ?_|refine ynk ?_|refine vy (zG5 rfl) ?_|refine vy (zK5 rfl rfl) ?_|refine vy (zR rfl rfl) ?_|refine vy (zM5 rfl rfl) ?_|refine vy (zT9 rfl rfl) ?_|refine vy (zT4 rfl rfl) ?_|refine vy (zT3 rfl rfl) ?_|refine vy (zN4 rfl rfl) ?_|refine vy (zY4 rfl rfl) ?_|refine vy (zV7 rfl rfl) ?_)|(with_reducible refine gC ?_);(first|refine zC9 rfl ?_|refine zM2 rfl ?_)|refine zD5 rfl ?_));exact h):G:=s h
theorem a14 (h:G') (s:G'→G:=by intro h;(iterate 14 (first|with_reducible (first|refine zC5 ?_|refine zB4 ?_|refine zA6 ?_|refine zI6 ?_|refine zA5 ?_|refine zD6 ?_|refine zE0 ?_|refine zA8 ?_|refine zA ?_|refine zA4 ?_|refine zJ1 ?_|refine zB3 ?_|refine zC0 ?_)|(with_reducible refine gL ?_);(first|refine ym ?_|refine ya ?_|refine ypt ?_|refine ypf ?_|refine vsk ?_|refine ynk ?_|refine vy (zG5 rfl) ?_|refine vy (zK5 rfl rfl) ?_|refine vy (zR rfl rfl) ?_|refine vy (zM5 rfl rfl) ?_|refine vy (zT9 rfl rfl) ?_|refine vy (zT4 rfl rfl) ?_|refine vy (zT3 rfl rfl) ?_|refine vy (zN4 rfl rfl) ?_|refine vy (zY4 rfl rfl) ?_|refine vy (zV7 rfl rfl) ?_)|(with_reducible refine gC ?_);(first|refine zC9 rfl ?_|refine zM2 rfl ?_)|refine zD5 rfl ?_));exact h):G:=s h
theorem a15 (h:G') (s:G'→G:=by intro h;(iterate 15 (first|with_reducible (first|refine zC5 ?_|refine zB4 ?_|refine zA6 ?_|refine zI6 ?_|refine zA5 ?_|refine zD6 ?_|refine zE0 ?_|refine zA8 ?_|refine zA ?_|refine zA4 ?_|refine zJ1 ?_|refine zB3 ?_|refine zC0 ?_)|(with_reducible refine gL ?_);(first|refine ym ?_|refine ya ?_|refine ypt ?_|refine ypf ?_|refine vsk ?_|refine ynk ?_|refine vy (zG5 rfl) ?_|refine vy (zK5 rfl rfl) ?_|refine vy (zR rfl rfl) ?_|refine vy (zM5 rfl rfl) ?_|refine vy (zT9 rfl rfl) ?_|refine vy (zT4 rfl rfl) ?_|refine vy (zT3 rfl rfl) ?_|refine vy (zN4 rfl rfl) ?_|refine vy (zY4 rfl rfl) ?_|refine vy (zV7 rfl rfl) ?_)|(with_reducible refine gC ?_);(first|refine zC9 rfl ?_|refine zM2 rfl ?_)|refine zD5 rfl ?_));exact h):G:=s h
theorem a16 (h:G') (s:G'→G:=by intro h;(iterate 16 (first|with_reducible (first|refine zC5 ?_|refine zB4 ?_|refine zA6 ?_|refine zI6 ?_|refine zA5 ?_|refine zD6 ?_|refine zE0 ?_|refine zA8 ?_|refine zA ?_|refine zA4 ?_|refine zJ1 ?_|refine zB3 ?_|refine zC0 ?_)|(with_reducible refine gL ?_);(first|refine ym ?_|refine ya ?_|refine ypt ?_|refine ypf ?_|refine vsk ?_|refine ynk ?_|refine vy (zG5 rfl) ?_|refine vy (zK5 rfl rfl) ?_|refine vy (zR rfl rfl) ?_|refine vy (zM5 rfl rfl) ?_|refine vy (zT9 rfl rfl) ?_|refine vy (zT4 rfl rfl) ?_|refine vy (zT3 rfl rfl) ?_|refine vy (zN4 rfl rfl) ?_|refine vy (zY4 rfl rfl) ?_|refine vy (zV7 rfl rfl) ?_)|(with_reducible refine gC ?_);(first|refine zC9 rfl ?_|refine zM2 rfl ?_)|refine zD5 rfl ?_));exact h):G:=s h
end
end Sx
/- What the lexer computes,in plain words: no program in sight. -/
namespace LexS
def zE9 (c:UInt8):Bool:=decide (97≤c.toNat∧c.toNat≤122∨65≤c.toNat∧c.toNat≤90∨c.toNat=95)
def zB5 (c:UInt8):Bool:=decide (48≤c.toNat∧c.toNat≤57)
def zQ2 (c:UInt8):Bool:=decide (c.toNat=32∨c.toNat=9∨c.toNat=10∨c.toNat=13)
def zF4 (c:UInt8):Bool:=zE9 c || zB5 c
def zI9:List UInt8:=[115,104,97,114,101,100]
def zH7:List UInt8:=[108,111,99,107]
def zJ8:List UInt8:=[116,104,114,101,97,100]
def zM4:List UInt8:=[108,111,99,97,108]
def wIf:List UInt8:=[105,102]
def zS6:List UInt8:=[101,108,115,101]
def zH:List UInt8:=[119,104,105,108,101]
def zI2:List UInt8:=[112,114,105,110,116]
def zO9:List UInt8:=[115,107,105,112]
def zY5:List UInt8:=[115,119,97,112]
def zP0 (l:List UInt8):Bool:=decide (l=zI9∨l=zH7∨l=zJ8∨l=zM4∨l=wIf∨l=zS6∨l=zH∨l=zI2∨l=zO9∨l=zY5)
def zG1 (l:List UInt8):Bool:=decide (l=[61,61]∨l=[33,61]∨l=[60,61]∨l=[62,61]∨l=[60,60]∨l=[62,62])
def signs1:List UInt8:=[40,41,123,125,44,59,61,43,45,42,47,37,38,124,94,33,60,62]
def zK1 (l:List UInt8):Bool:=match l with | [c]=>signs1.contains c|_=>false
def zM1 (l:List UInt8):Bool:=zG1 l || zK1 l
def zH4 (l:List UInt8):Bool:=match l with
  | []=>false
  | c::_=>decide (l.length≤32) && !zB5 c && !zP0 l && l.all zF4
def qO8:List UInt8→Nat
  | []=>0
  | c::r=>if c=10 then 0 else qO8 r+1
def zT5 (l:List UInt8):Bool:=match l with|a::b::_=>decide (a=47∧b=47)|_=>false
def gH3:Nat→List UInt8→Nat
  | 0,_=>0
  | _+1,[]=>0
  | k+1,c::r=>if zQ2 c then gH3 k r+1 else if zT5 (c::r) then qO8 (c::r)+gH3 k ((c::r).drop (qO8 (c::r))) else 0
def skip (l:List UInt8):Nat:=gH3 (l.length+1) l
theorem kO1 (l:List UInt8):qO8 l≤l.length:=by
  induction l with
  | nil=>simp [qO8]
  | cons c r ih=>simp only [qO8];split <;> simp <;> omega
theorem qH5 {l:List UInt8} (h:zT5 l=true):0<qO8 l:=by
  match l with
  | []=>simp [zT5] at h
  | [_]=>simp [zT5] at h
  | a::b::r=>
    simp [zT5] at h
    obtain⟨rfl,rfl⟩:=h
    simp [qO8]
theorem qQ2:∀ (k j:Nat) (l:List UInt8),l.length<k→l.length<j→gH3 k l=gH3 j l
  | 0,j,l,h,_=>by omega
  | k+1,0,l,_,h=>by omega
  | k+1,j+1,[],_,_=>rfl
  | k+1,j+1,c::r,h1,h2=>by
    simp only [List.length_cons] at h1 h2
    simp only [gH3]
    split
    · rw [qQ2 k j r (by omega) (by omega)]
    · split
      · rename_i hr
        have hp:=qH5 hr
        have hl:((c::r).drop (qO8 (c::r))).length<r.length+1:=by simp only [List.length_drop,List.length_cons];omega
        rw [qQ2 k j _ (by omega) (by omega)]
      · rfl
theorem qI2:skip []=0:=rfl
theorem qH6 {c:UInt8} {r:List UInt8} (h:zQ2 c=true):skip (c::r)=skip r+1:=by
  unfold skip
  simp only [List.length_cons,gH3,h,if_true]
theorem qS7 {l:List UInt8} (h:zT5 l=true):skip l=qO8 l+skip (l.drop (qO8 l)):=by
  match l,h with
  | [],h=>simp [zT5] at h
  | c::r,h=>
    have hb:zQ2 c=false:=by
      match r,h with
      | [],h=>simp [zT5] at h
      | b::r,h=>
        simp [zT5] at h
        obtain⟨rfl,rfl⟩:=h
        decide
    have hp:=qH5 h
    unfold skip
    simp only [List.length_cons,gH3,hb,h,if_true]
    simp only [Bool.false_eq_true,if_false]
    rw [qQ2 (r.length+1) (((c::r).drop (qO8 (c::r))).length+1)]
    · simp only [List.length_drop,List.length_cons];omega
    · omega
theorem zQ8 {c:UInt8} {r:List UInt8} (h:zQ2 c=false) (hr:zT5 (c::r)=false):skip (c::r)=0:=by
  unfold skip
  simp only [List.length_cons,gH3,h,hr,Bool.false_eq_true,if_false]
theorem jD4 (l:List UInt8):skip l≤l.length:=by
  have key:∀ n (l:List UInt8),l.length=n→skip l≤l.length:=by
    intro n
    induction n using Nat.strongRecOn with
    | _ n ih=>
      intro l hl
      match l with
      | []=>simp [qI2]
      | c::r=>
        cases hb:zQ2 c with
        | true=>
          rw [qH6 hb]
          have:=ih r.length (by simp at hl;omega) r rfl
          simp;omega
        | false=>
          cases hr:zT5 (c::r) with
          | true=>
            rw [qS7 hr]
            have hp:=qH5 hr
            have hle:=kO1 (c::r)
            have:=ih ((c::r).drop (qO8 (c::r))).length (by simp only [List.length_drop,List.length_cons] at *;omega) _ rfl
            simp only [List.length_drop] at this
            omega
          | false=>rw [zQ8 hb hr];simp
  exact key _ l rfl
theorem gK (l:List UInt8):Go.Lib.indexByte l 10= -1∧qO8 l=l.length∨Go.Lib.indexByte l 10=(qO8 l:Int)∧0≤Go.Lib.indexByte l 10:=by
  induction l with
  | nil=>left;simp [Go.Lib.indexByte,qO8]
  | cons c r ih=>
    simp only [Go.Lib.indexByte,qO8]
    by_cases hc:c=10
    · subst hc;right;simp
    · have hc':(c == 10)=false:=by simpa using hc
      simp only [hc',hc,if_false,Bool.false_eq_true]
      rcases ih with ⟨h1,h2⟩|⟨h1,h2⟩
      · left;simp [h1,h2]
      · right
        have:¬ (Go.Lib.indexByte r 10 == -1)=true:=by simp;omega
        rw [if_neg this,h1]
        constructor
        · omega
        · omega
theorem gS5 (l:List UInt8) (c:UInt8):decide (0≤Go.Lib.indexByte l c)=l.contains c:=by
  have h:(0≤Go.Lib.indexByte l c)↔c∈l:=by
    induction l with
    | nil=>simp [Go.Lib.indexByte]
    | cons b r ih=>
      have hge:=Go.Lib.indexByte_ge r c
      simp only [Go.Lib.indexByte]
      by_cases hb:b=c
      · subst hb;simp
      · have hb':(b == c)=false:=by simpa using hb
        simp only [hb',Bool.false_eq_true,if_false,List.mem_cons,Ne.symm hb,false_or,← ih]
        split
        · rename_i h;simp at h;omega
        · rename_i h;simp at h;omega
  rw [Bool.eq_iff_iff];simp [h]
structure Tok where
  kind:Nat
  text:List UInt8
  word:Nat
  at_:Nat
  deriving DecidableEq,Repr
def zG6 (l:List UInt8):Nat:=l.foldl (fun n c=>10*n+(c.toNat - 48)) 0
theorem qC2 (l:List UInt8) (c:UInt8):zG6 (l++[c])=10*zG6 l+(c.toNat - 48):=by simp [zG6]
inductive TokR where
  | tok (t:Tok)
  | bad (rule at_:Nat)
  deriving DecidableEq,Repr
def zK7 (r:List UInt8) (i:Nat):TokR:=match r with
  | []=>.bad 1 i
  | c::_=>
    if zE9 c then
      let t:=r.takeWhile zF4
      if zP0 t then .tok ⟨2,t,0,i⟩ else if 32<t.length then .bad 2 (i+32) else .tok ⟨1,t,0,i⟩
    else if zB5 c then
      let t:=r.takeWhile zB5
      if (1<t.length∧c=48)∨9223372036854775807<zG6 t then .bad 3 i
      else match r.drop t.length with
        | d::_=>if zE9 d then .bad 4 (i+t.length) else .tok ⟨3,t,zG6 t,i⟩
        | []=>.tok ⟨3,t,zG6 t,i⟩
    else if zG1 (r.take 2) then .tok ⟨4,r.take 2,0,i⟩
    else if zK1 [c] then .tok ⟨4,[c],0,i⟩
    else .bad 1 i
def qX8:Nat→List UInt8→Nat→List Tok×Option (Nat×Nat)
  | 0,_,_=>([],none)
  | k+1,r,i=>
    match r.drop (skip r) with
    | []=>([],none)
    | c::r'=>match zK7 (c::r') (i+skip r) with
      | .bad rule p=>([],some (rule,p))
      | .tok t=>((t::(qX8 k ((c::r').drop t.text.length) (i+skip r+t.text.length)).1),(qX8 k ((c::r').drop t.text.length) (i+skip r+t.text.length)).2)
def zI (s:List UInt8):List Tok×Option (Nat×Nat):=qX8 (s.length+1) s 0
theorem qP0 {r:List UInt8} {i:Nat} {t:Tok} (h:zK7 r i=.tok t):1≤t.text.length∧t.text=r.take t.text.length∧t.at_=i:=by
  match r,h with
  | [],h=>simp [zK7] at h
  | c::r,h=>
    have htw:∀ p:UInt8→Bool,(c::r).takeWhile p=(c::r).take ((c::r).takeWhile p).length:=fun p=>by
      have h:=List.takeWhile_append_dropWhile (p:=p) (l:=c::r)
      have h2:(c::r).take ((c::r).takeWhile p).length=((c::r).takeWhile p++(c::r).dropWhile p).take ((c::r).takeWhile p).length:=by rw [h]
      rw [h2,List.take_left']
      rfl
    have hpos:∀ p:UInt8→Bool,p c=true→1≤((c::r).takeWhile p).length:=fun p hp=>by rw [List.takeWhile_cons,if_pos hp];simp
    have h2:∀ l:List UInt8,zG1 l=true→l.length=2:=fun l hl=>by
      simp only [zG1,decide_eq_true_eq] at hl
      rcases hl with h|h|h|h|h|h <;> simp [h]
    simp only [zK7] at h
    split at h
    · rename_i hc
      have hi:zF4 c=true:=by simp [zF4,hc]
      split at h
      · cases h;exact⟨hpos _ hi,htw _,rfl⟩
      · split at h
        · cases h
        · cases h;exact⟨hpos _ hi,htw _,rfl⟩
    · split at h
      · rename_i hd
        split at h
        · cases h
        · split at h
          · split at h
            · cases h
            · cases h;exact⟨hpos _ hd,htw _,rfl⟩
          · cases h;exact⟨hpos _ hd,htw _,rfl⟩
      · split at h
        · rename_i hs
          cases h
          have hl:=h2 _ hs
          exact⟨by dsimp only;omega,by dsimp only;rw [hl],rfl⟩
        · split at h
          · cases h;exact⟨by simp,by simp,rfl⟩
          · cases h
theorem gE6:∀ (k j:Nat) (r:List UInt8) (i:Nat),r.length<k→r.length<j→qX8 k r i=qX8 j r i
  | 0,_,_,_,h,_=>by omega
  | _+1,0,_,_,_,h=>by omega
  | k+1,j+1,r,i,h1,h2=>by
    simp only [qX8]
    cases hd:r.drop (skip r) with
    | nil=>rfl
    | cons c r'=>
      have hl:(c::r').length≤r.length:=by rw [← hd];simp
      cases ht:zK7 (c::r') (i+skip r) with
      | bad rule p=>simp only [ht]
      | tok t=>
        have h3:=(qP0 ht).1
        have h4:1≤(c::r').length:=by simp
        have e:=gE6 k j ((c::r').drop t.text.length) (i+skip r+t.text.length) (by simp only [List.length_drop];omega) (by simp only [List.length_drop];omega)
        simp only [ht,e]
def zY3 (r:List UInt8) (i:Nat):List Tok×Option (Nat×Nat):=qX8 (r.length+1) r i
theorem qI (s:List UInt8):zI s=zY3 s 0:=rfl
theorem zW3 {r:List UInt8} {i:Nat} (h:r.length≤skip r):zY3 r i=([],none):=by
  simp only [zY3,qX8]
  rw [List.drop_eq_nil_of_le h]
theorem qB1 {r:List UInt8} {i rule p:Nat} (h:skip r<r.length) (hb:zK7 (r.drop (skip r)) (i+skip r)=.bad rule p):zY3 r i=([],some (rule,p)):=by
  simp only [zY3,qX8]
  cases hd:r.drop (skip r) with
  | nil=>have:=congrArg List.length hd;simp at this;omega
  | cons c r'=>rw [hd] at hb;simp only [hb]
theorem zX8 {r:List UInt8} {i:Nat} {t:Tok} (h:skip r<r.length) (hb:zK7 (r.drop (skip r)) (i+skip r)=.tok t) :
    zY3 r i=(t::(zY3 (r.drop (skip r+t.text.length)) (i+skip r+t.text.length)).1,(zY3 (r.drop (skip r+t.text.length)) (i+skip r+t.text.length)).2):=by
  have h3:=(qP0 hb).1
  have e:zY3 (r.drop (skip r+t.text.length)) (i+skip r+t.text.length)=qX8 r.length (r.drop (skip r+t.text.length)) (i+skip r+t.text.length):=
    gE6 _ _ _ _ (by omega) (by simp only [List.length_drop];omega)
  rw [e]
  simp only [zY3,qX8]
  cases hd:r.drop (skip r) with
  | nil=>have:=congrArg List.length hd;simp at this;omega
  | cons c r'=>
    rw [hd] at hb
    simp only [hb]
    rw [← hd,List.drop_drop]
def zJ (s:List UInt8):List Tok×Nat×Nat×Nat:=
  if 65536<s.length then ([],4,0,0) else match (zI s).2 with
    | none=>((zI s).1,0,0,0)
    | some (rule,p)=>([],20,p,rule)
end LexS
namespace Go.Proofs.YtnmhlpnapgojjaaGreatDoor
open Go.RowKit Sx LexS _root_.Go.Proofs.Tryz
theorem Tryz.mixed:Tryz.prog.follows .mixedOrders=true:=by kernel_rfl
theorem qF3 (c:UInt8) (w:World):Ret Tryz.prog 113 [.int .u8 (c.toNat:Int)] w fun v w'=>v=.bool (zB5 c)∧w'=w:=by
 refine zB [_] func113 rfl ntmps113 rfl ?_;have st:=St.init w [];refine a9 ?_;refine vmb ?_ ?_;intro hg5;(try simp only [dn] at hg5);refine a3 ?_
 rotate_left
 intro hg5;(try simp only [dn] at hg5);refine a3 ?_
 all_goals
  refine a4 ?_;refine vr1 st results113 ?_;exact⟨by rw [Value.bool.injEq,Bool.eq_iff_iff];simp only [zB5,decide_eq_true_eq,true_iff,Bool.false_eq_true,false_iff];omega,rfl⟩
theorem zS3 (c:UInt8) (w:World):Ret Tryz.prog 115 [.int .u8 (c.toNat:Int)] w fun v w'=>v=.bool (zE9 c)∧w'=w:=by
 refine zB [_] func115 rfl ntmps115 rfl ?_;have st:=St.init w [];refine sr ?_;refine ya ?_;refine et (sr ?_);refine ym ?_;refine vy (zT3 rfl rfl) ?_;refine vmb ?_ ?_
 focus
  intro hg5;(try simp only [dn] at hg5);refine ym ?_;refine vy (zT9 rfl rfl) ?_;refine ypt ?_;refine vmb ?_ ?_;intro hg9;(try simp only [dn] at hg9);(iterate 6 refine vsk ?_);refine ypt ?_;refine ym ?_;(iterate 2 refine vsk ?_);refine ypt ?_
  rotate_left
  focus
   intro hg9;(try simp only [dn] at hg9);refine ym ?_;refine vy (zT3 rfl rfl) ?_;refine vmb ?_ ?_
   focus
    intro hg12;(try simp only [dn] at hg12);refine ym ?_;refine vy (zT9 rfl rfl) ?_;refine ypt ?_;refine ypf ?_;refine vmb ?_ ?_;intro hg17;(try simp only [dn] at hg17);(iterate 2 refine vsk ?_);refine ypt ?_
    rotate_left
    intro hg17;(try simp only [dn] at hg17);refine ym ?_;refine vy (zK5 rfl rfl) ?_;refine ypf ?_
   rotate_left 2
   intro hg12;(try simp only [dn] at hg12);(iterate 2 refine vsk ?_);(iterate 2 refine ypf ?_);(iterate 2 refine ym ?_);refine vy (zK5 rfl rfl) ?_;refine ypf ?_
 rotate_left 4
 focus
  intro hg5;(try simp only [dn] at hg5);(iterate 2 refine vsk ?_);refine ypf ?_;(iterate 2 refine ym ?_);refine vy (zT3 rfl rfl) ?_;refine vmb ?_ ?_
  focus
   intro hg12;(try simp only [dn] at hg12);refine ym ?_;refine vy (zT9 rfl rfl) ?_;refine ypt ?_;refine ypf ?_;refine vmb ?_ ?_;intro hg17;(try simp only [dn] at hg17);(iterate 2 refine vsk ?_);refine ypt ?_
   rotate_left
   intro hg17;(try simp only [dn] at hg17);refine ym ?_;refine vy (zK5 rfl rfl) ?_;refine ypf ?_
  rotate_left 2
  intro hg12;(try simp only [dn] at hg12);(iterate 2 refine vsk ?_);(iterate 2 refine ypf ?_);(iterate 2 refine ym ?_);refine vy (zK5 rfl rfl) ?_;refine ypf ?_
 all_goals
  refine ya ?_;refine et (zA8 ?_);refine vr1 st results115 ?_;exact⟨by rw [Value.bool.injEq,Bool.eq_iff_iff];simp only [zE9,decide_eq_true_eq,true_iff,Bool.false_eq_true,false_iff];omega,rfl⟩
theorem kI4 (c:UInt8) (w:World):Ret Tryz.prog 226 [.int .u8 (c.toNat:Int)] w fun v w'=>v=.bool (zQ2 c)∧w'=w:=by
 refine zB [_] func226 rfl ntmps226 rfl ?_;have st:=St.init w [];refine a9 ?_;refine vmb ?_ ?_;intro hg5;(try simp only [dn] at hg5);refine a11 ?_
 rotate_left
 focus
  intro hg5;(try simp only [dn] at hg5);refine a3 ?_;refine vmb ?_ ?_;intro hg9;(try simp only [dn] at hg9);refine a7 ?_
  rotate_left
  focus
   intro hg9;(try simp only [dn] at hg9);refine a3 ?_;refine vmb ?_ ?_;intro hg13;(try simp only [dn] at hg13);refine a3 ?_
   rotate_left
   intro hg13;(try simp only [dn] at hg13);refine a3 ?_
 all_goals
  refine a4 ?_;refine vr1 st results226 ?_;exact⟨by rw [Value.bool.injEq,Bool.eq_iff_iff];simp only [zQ2,decide_eq_true_eq,true_iff,Bool.false_eq_true,false_iff];omega,rfl⟩
theorem zS2 (c:UInt8) (w:World):Ret Tryz.prog 123 [.int .u8 (c.toNat:Int)] w fun v w'=>v=.bool (zB5 c)∧w'=w:=by
 refine zB [_] func123 rfl ntmps123 rfl ?_;have st:=St.init w [];refine a9 ?_;refine vmb ?_ ?_;intro hg5;(try simp only [dn] at hg5);refine a3 ?_
 rotate_left
 intro hg5;(try simp only [dn] at hg5);refine a3 ?_
 all_goals
  refine a4 ?_;refine vr1 st results123 ?_;exact⟨by rw [Value.bool.injEq,Bool.eq_iff_iff];simp only [zB5,decide_eq_true_eq,true_iff,Bool.false_eq_true,false_iff];omega,rfl⟩
theorem zX0 (c:UInt8) (w:World):Ret Tryz.prog 125 [.int .u8 (c.toNat:Int)] w fun v w'=>v=.bool (zE9 c)∧w'=w:=by
 refine zB [_] func125 rfl ntmps125 rfl ?_;have st:=St.init w [];refine sr ?_;refine ya ?_;refine et (sr ?_);refine ym ?_;refine vy (zT3 rfl rfl) ?_;refine vmb ?_ ?_
 focus
  intro hg5;(try simp only [dn] at hg5);refine ym ?_;refine vy (zT9 rfl rfl) ?_;refine ypt ?_;refine vmb ?_ ?_;intro hg9;(try simp only [dn] at hg9);(iterate 6 refine vsk ?_);refine ypt ?_;refine ym ?_;(iterate 2 refine vsk ?_);refine ypt ?_
  rotate_left
  focus
   intro hg9;(try simp only [dn] at hg9);refine ym ?_;refine vy (zT3 rfl rfl) ?_;refine vmb ?_ ?_
   focus
    intro hg12;(try simp only [dn] at hg12);refine ym ?_;refine vy (zT9 rfl rfl) ?_;refine ypt ?_;refine ypf ?_;refine vmb ?_ ?_;intro hg17;(try simp only [dn] at hg17);(iterate 2 refine vsk ?_);refine ypt ?_
    rotate_left
    intro hg17;(try simp only [dn] at hg17);refine ym ?_;refine vy (zK5 rfl rfl) ?_;refine ypf ?_
   rotate_left 2
   intro hg12;(try simp only [dn] at hg12);(iterate 2 refine vsk ?_);(iterate 2 refine ypf ?_);(iterate 2 refine ym ?_);refine vy (zK5 rfl rfl) ?_;refine ypf ?_
 rotate_left 4
 focus
  intro hg5;(try simp only [dn] at hg5);(iterate 2 refine vsk ?_);refine ypf ?_;(iterate 2 refine ym ?_);refine vy (zT3 rfl rfl) ?_;refine vmb ?_ ?_
  focus
   intro hg12;(try simp only [dn] at hg12);refine ym ?_;refine vy (zT9 rfl rfl) ?_;refine ypt ?_;refine ypf ?_;refine vmb ?_ ?_;intro hg17;(try simp only [dn] at hg17);(iterate 2 refine vsk ?_);refine ypt ?_
   rotate_left
   intro hg17;(try simp only [dn] at hg17);refine ym ?_;refine vy (zK5 rfl rfl) ?_;refine ypf ?_
  rotate_left 2
  intro hg12;(try simp only [dn] at hg12);(iterate 2 refine vsk ?_);(iterate 2 refine ypf ?_);(iterate 2 refine ym ?_);refine vy (zK5 rfl rfl) ?_;refine ypf ?_
 all_goals
  refine ya ?_;refine et (zA8 ?_);refine vr1 st results125 ?_;exact⟨by rw [Value.bool.injEq,Bool.eq_iff_iff];simp only [zE9,decide_eq_true_eq,true_iff,Bool.false_eq_true,false_iff];omega,rfl⟩
theorem kA (c:UInt8) (w:World):Ret Tryz.prog 251 [.int .u8 (c.toNat:Int)] w fun v w'=>v=.bool (zQ2 c)∧w'=w:=by
 refine zB [_] func251 rfl ntmps251 rfl ?_;have st:=St.init w [];refine a9 ?_;refine vmb ?_ ?_;intro hg5;(try simp only [dn] at hg5);refine a11 ?_
 rotate_left
 focus
  intro hg5;(try simp only [dn] at hg5);refine a3 ?_;refine vmb ?_ ?_;intro hg9;(try simp only [dn] at hg9);refine a7 ?_
  rotate_left
  focus
   intro hg9;(try simp only [dn] at hg9);refine a3 ?_;refine vmb ?_ ?_;intro hg13;(try simp only [dn] at hg13);refine a3 ?_
   rotate_left
   intro hg13;(try simp only [dn] at hg13);refine a3 ?_
 all_goals
  refine a4 ?_;refine vr1 st results251 ?_;exact⟨by rw [Value.bool.injEq,Bool.eq_iff_iff];simp only [zQ2,decide_eq_true_eq,true_iff,Bool.false_eq_true,false_iff];omega,rfl⟩
set_option maxHeartbeats 1000000 in
theorem gG0 (l:List UInt8) (w:World):Ret Tryz.prog 114 [str l] w fun v w'=>v=.bool (zP0 l)∧w'=w:=by
 refine zB [_] func114 rfl ntmps114 rfl ?_;have st:=St.init w [];refine a16 ?_;refine a3 ?_;refine vif ?_ ?_;intro hc4;(try simp only [dn] at hc4);refine a11 ?_
 rotate_left
 focus
  intro hc4;(try simp only [dn] at hc4);refine a6 ?_;refine vif ?_ ?_;intro hc4;(try simp only [dn] at hc4);refine a11 ?_
  rotate_left
  focus
   intro hc4;(try simp only [dn] at hc4);refine a6 ?_;refine vif ?_ ?_;intro hc4;(try simp only [dn] at hc4);refine a11 ?_
   rotate_left
   focus
    intro hc4;(try simp only [dn] at hc4);refine a6 ?_;refine vif ?_ ?_;intro hc4;(try simp only [dn] at hc4);refine a11 ?_
    rotate_left
    focus
     intro hc4;(try simp only [dn] at hc4);refine a6 ?_;refine vif ?_ ?_;intro hc4;(try simp only [dn] at hc4);refine a11 ?_
     rotate_left
     focus
      intro hc4;(try simp only [dn] at hc4);refine a6 ?_;refine vif ?_ ?_;intro hc4;(try simp only [dn] at hc4);refine a11 ?_
      rotate_left
      focus
       intro hc4;(try simp only [dn] at hc4);refine a6 ?_;refine vif ?_ ?_;intro hc4;(try simp only [dn] at hc4);refine a11 ?_
       rotate_left
       focus
        intro hc4;(try simp only [dn] at hc4);refine a6 ?_;refine vif ?_ ?_;intro hc4;(try simp only [dn] at hc4);refine a11 ?_
        rotate_left
        focus
         intro hc4;(try simp only [dn] at hc4);refine a6 ?_;refine vif ?_ ?_;intro hc4;(try simp only [dn] at hc4);refine a11 ?_
         rotate_left
         focus
          intro hc4;(try simp only [dn] at hc4);refine a5 ?_;refine vif ?_ ?_;intro hc4;(try simp only [dn] at hc4);refine a8 ?_
          rotate_left
          intro hc4;(try simp only [dn] at hc4);refine a9 ?_
 all_goals
  refine vr1 st results114 ?_;refine⟨?_,rfl⟩;rw [Value.bool.injEq]
  first
  | (symm;simp only [zP0,decide_eq_true_eq];simp only [zI9,zH7,zJ8,zM4,wIf,zS6,zH,zI2,zO9,zY5];simp only [*,true_or,or_true];done)
  | (symm;simp only [zP0,decide_eq_false_iff_not];simp only [zI9,zH7,zJ8,zM4,wIf,zS6,zH,zI2,zO9,zY5];simp only [*,or_self,not_false_eq_true])
set_option maxHeartbeats 1000000 in
theorem qX3 (l:List UInt8) (w:World):Ret Tryz.prog 124 [str l] w fun v w'=>v=.bool (zP0 l)∧w'=w:=by
 refine zB [_] func124 rfl ntmps124 rfl ?_;have st:=St.init w [];refine a16 ?_;refine a3 ?_;refine vif ?_ ?_;intro hc4;(try simp only [dn] at hc4);refine a11 ?_
 rotate_left
 focus
  intro hc4;(try simp only [dn] at hc4);refine a6 ?_;refine vif ?_ ?_;intro hc4;(try simp only [dn] at hc4);refine a11 ?_
  rotate_left
  focus
   intro hc4;(try simp only [dn] at hc4);refine a6 ?_;refine vif ?_ ?_;intro hc4;(try simp only [dn] at hc4);refine a11 ?_
   rotate_left
   focus
    intro hc4;(try simp only [dn] at hc4);refine a6 ?_;refine vif ?_ ?_;intro hc4;(try simp only [dn] at hc4);refine a11 ?_
    rotate_left
    focus
     intro hc4;(try simp only [dn] at hc4);refine a6 ?_;refine vif ?_ ?_;intro hc4;(try simp only [dn] at hc4);refine a11 ?_
     rotate_left
     focus
      intro hc4;(try simp only [dn] at hc4);refine a6 ?_;refine vif ?_ ?_;intro hc4;(try simp only [dn] at hc4);refine a11 ?_
      rotate_left
      focus
       intro hc4;(try simp only [dn] at hc4);refine a6 ?_;refine vif ?_ ?_;intro hc4;(try simp only [dn] at hc4);refine a11 ?_
       rotate_left
       focus
        intro hc4;(try simp only [dn] at hc4);refine a6 ?_;refine vif ?_ ?_;intro hc4;(try simp only [dn] at hc4);refine a11 ?_
        rotate_left
        focus
         intro hc4;(try simp only [dn] at hc4);refine a6 ?_;refine vif ?_ ?_;intro hc4;(try simp only [dn] at hc4);refine a11 ?_
         rotate_left
         focus
          intro hc4;(try simp only [dn] at hc4);refine a5 ?_;refine vif ?_ ?_;intro hc4;(try simp only [dn] at hc4);refine a8 ?_
          rotate_left
          intro hc4;(try simp only [dn] at hc4);refine a9 ?_
 all_goals
  refine vr1 st results124 ?_;refine⟨?_,rfl⟩;rw [Value.bool.injEq]
  first
  | (symm;simp only [zP0,decide_eq_true_eq];simp only [zI9,zH7,zJ8,zM4,wIf,zS6,zH,zI2,zO9,zY5];simp only [*,true_or,or_true];done)
  | (symm;simp only [zP0,decide_eq_false_iff_not];simp only [zI9,zH7,zJ8,zM4,wIf,zS6,zH,zI2,zO9,zY5];simp only [*,or_self,not_false_eq_true])
theorem qN5 {l:List UInt8} (h0:l≠[]) (h1:l.length≤32) (h2:zB5 (l.getD 0 0)=false) (h3:zP0 l=false):zH4 l=l.all zF4:=by
 match l,h0 with
 | c::r,_=>simp at h2 h1;simp [zH4,h2,h3,h1]
theorem gD {l:List UInt8} (h:l=[]):zH4 l=false:=by subst h;rfl
theorem qK {l:List UInt8} (h:32<l.length):zH4 l=false:=by
 match l,h with
 | c::r,h=>simp only [zH4];rw [show decide ((c::r).length≤32)=false from by simp only [decide_eq_false_iff_not];omega];simp
theorem qR7 {l:List UInt8} (h:zB5 (l.getD 0 0)=true):zH4 l=false:=by
 match l with
 | []=>rfl
 | c::r=>simp at h;simp [zH4,h]
theorem qX0 {l:List UInt8} (h:zP0 l=true):zH4 l=false:=by
 match l with
 | []=>rfl
 | c::r=>simp [zH4,h]
theorem zP3 {p:UInt8→Bool} {l:List UInt8} {m:Nat} (hm:m<l.length) (h:(l.take m).all p=true) (hp:p (l.getD m 0)=true):(l.take (m+1)).all p=true:=by
 rw [List.take_add_one];have:l[m]?=some (l.getD m 0):=by simp [List.getD,hm]
 rw [this];simp only [List.all_append,h,Option.toList_some,List.all_cons,hp,List.all_nil,Bool.and_self]
theorem gU7 {p:UInt8→Bool} {l:List UInt8} {m:Nat} (hm:m<l.length) (hp:p (l.getD m 0)=false):l.all p=false:=by
 rw [List.all_eq_false];refine⟨l.getD m 0,?_,by rw [hp];simp⟩;rw [show l.getD m 0=l[m] from by simp [List.getD,hm]];exact List.getElem_mem hm
theorem kB0 {l:List UInt8}:zM1 l=decide (l=[40]∨l=[41]∨l=[123]∨l=[125]∨l=[44]∨l=[59]∨l=[61]∨l=[43]∨l=[45]∨l=[42]∨l=[47]∨l=[37]∨l=[38]∨l=[124]∨l=[94]∨l=[33]∨l=[60]∨l=[62]∨
    l=[61,61]∨l=[33,61]∨l=[60,61]∨l=[62,61]∨l=[60,60]∨l=[62,62]):=by
 match l with
 | []=>rfl
 | [c]=>
  have h2:zG1 [c]=false:=by simp [zG1]
  rw [Bool.eq_iff_iff]
  simp [zM1,h2,zK1,signs1]
 | a::b::r=>
  have h1:zK1 (a::b::r)=false:=rfl
  simp only [zM1,h1,Bool.or_false,zG1]
  congr 1
  simp
set_option maxHeartbeats 1000000 in
theorem qU (l:List UInt8) (w:World):Ret Tryz.prog 52 [str l] w fun v w'=>v=.bool (zH4 l)∧w'=w:=by
 refine zB [_] func52 rfl ntmps52 rfl ?_;have st:=St.init w [];refine a10 ?_;refine vmb ?_ ?_;intro hg6;(try simp only [dn] at hg6);refine a16 ?_;refine a7 ?_;refine vr1 st results52 ?_;refine⟨?_,rfl⟩;rw [Value.bool.injEq]
 (symm;apply gD;assumption)
 intro hg6;(try simp only [dn] at hg6);refine a1 ?_;refine vy (zH8 rfl qU9) ?_;refine a2 ?_;refine vmb ?_ ?_;intro hg11;(try simp only [dn] at hg11);refine a16 ?_;refine a2 ?_;refine vr1 st results52 ?_;refine⟨?_,rfl⟩;rw [Value.bool.injEq]
 (symm;apply qK;omega)
 intro hg11;(try simp only [dn] at hg11);refine a1 ?_;refine vy (zP1 (k:=0) rfl rfl qU9 rfl (by(rcases l with _|⟨_,_⟩ <;> simp at*))) ?_;refine zA3 (zA1 [_] rfl rfl call113 rfl (qF3 _ _) ?_);rintro _ w ⟨rfl,rfl⟩;refine a1 ?_;refine vmb ?_ ?_;intro hg16;(try simp only [dn] at hg16);refine a13 ?_;refine vr1 st results52 ?_;refine⟨?_,rfl⟩;rw [Value.bool.injEq]
 (symm;apply qR7;assumption)
 intro hg16;(try simp only [dn] at hg16);refine a1 ?_;refine zA3 (zA1 [_] rfl rfl call114 rfl (gG0 _ _) ?_);rintro _ w ⟨rfl,rfl⟩;refine a3 ?_;refine vif ?_ ?_;intro hc19;(try simp only [dn] at hc19);refine a7 ?_;refine vr1 st results52 ?_;refine⟨?_,rfl⟩;rw [Value.bool.injEq]
 (symm;apply qX0;assumption)
 intro hc19;(try simp only [dn] at hc19);refine a6 ?_;refine vy (zH8 rfl qU9) ?_;refine a4 ?_;refine zC (w0:=_) (M:=_) (fun (m:Nat)=>[(0,str l),(21,.int .i64 (l.length:Int)),(22,.int .i64 (m:Int))]) (fun _=>[]) (fun m w'=>m≤l.length∧(l.take m).all zF4=true∧w'=w) (fun m=>l.length - m) 0 ⟨rfl,rfl,rfl,trivial⟩ st ⟨by omega,by simp,rfl⟩ ?_;rintro m w' ⟨hm,hall,rfl⟩ st;refine a6 ?_;refine vif ?_ ?_;intro hc23;(try simp only [dn] at hc23);refine a14 ?_;refine vy (zP1 (k:=_) rfl rfl qU9 rfl (by omega)) ?_;refine zA3 (zA1 [_] rfl rfl call115 rfl (zS3 _ _) ?_);rintro _ w ⟨rfl,rfl⟩;refine a1 ?_;refine vmb ?_ ?_;intro hg30;(try simp only [dn] at hg30);refine a2 ?_;refine vy (zP1 (k:=_) rfl rfl qU9 rfl (by omega)) ?_;refine zA3 (zA1 [_] rfl rfl call113 rfl (qF3 _ _) ?_);rintro _ w ⟨rfl,rfl⟩;refine a4 ?_;refine vif ?_ ?_;intro hc36;(try simp only [dn] at hc36);refine a11 ?_;refine vr1 st results52 ?_;refine⟨?_,rfl⟩;rw [Value.bool.injEq]
 (symm;rw [qN5 (by assumption) (by omega) (by assumption) (by assumption)];exact gU7 (m:=m) (by omega) (by simp only [zF4, *,Bool.or_true,Bool.true_or,Bool.or_self]))
 intro hc36;(try simp only [dn] at hc36);refine a4 ?_;refine vy (zK2 rfl rfl rfl (by omega) (by omega)) ?_;refine a2 ?_;refine zA7 (m+1) ⟨rfl,rfl,rfl,trivial⟩ st ?_ ?_;exact⟨by omega,zP3 (by omega) hall (by simp only [zF4, *,Bool.or_true,Bool.true_or,Bool.or_self]),rfl⟩;omega;intro hg30;(try simp only [dn] at hg30);refine a13 ?_;refine vy (zK2 rfl rfl rfl (by omega) (by omega)) ?_;refine a2 ?_;refine zA7 (m+1) ⟨rfl,rfl,rfl,trivial⟩ st ?_ ?_;exact⟨by omega,zP3 (by omega) hall (by simp only [zF4, *,Bool.or_true,Bool.true_or,Bool.or_self]),rfl⟩;omega;intro hc23;(try simp only [dn] at hc23);refine a11 ?_;refine vr1 st results52 ?_;refine⟨?_,rfl⟩;rw [Value.bool.injEq]
 (symm;rw [qN5 (by assumption) (by omega) (by assumption) (by assumption)];rw [List.take_of_length_le (by omega)] at hall;exact hall)
set_option maxHeartbeats 1000000 in
theorem zM9 (l:List UInt8) (w:World):Ret Tryz.prog 58 [str l] w fun v w'=>v=.bool (zH4 l)∧w'=w:=by
 refine zB [_] func58 rfl ntmps58 rfl ?_;have st:=St.init w [];refine a9 ?_;refine vy (zH8 rfl qU9) ?_;refine a1 ?_;refine vmb ?_ ?_;intro hg7;(try simp only [dn] at hg7);refine a16 ?_;refine a7 ?_;refine vr1 st results58 ?_;refine⟨?_,rfl⟩;rw [Value.bool.injEq]
 (symm;apply gD;(apply List.eq_nil_of_length_eq_zero;omega))
 intro hg7;(try simp only [dn] at hg7);refine a1 ?_;refine vy (zH8 rfl qU9) ?_;refine a2 ?_;refine vmb ?_ ?_;intro hg12;(try simp only [dn] at hg12);refine a16 ?_;refine a2 ?_;refine vr1 st results58 ?_;refine⟨?_,rfl⟩;rw [Value.bool.injEq]
 (symm;apply qK;omega)
 intro hg12;(try simp only [dn] at hg12);refine a1 ?_;refine vy (zP1 (k:=0) rfl rfl qU9 rfl (by omega)) ?_;refine zA3 (zA1 [_] rfl rfl call123 rfl (zS2 _ _) ?_);rintro _ w ⟨rfl,rfl⟩;refine a1 ?_;refine vmb ?_ ?_;intro hg17;(try simp only [dn] at hg17);refine a13 ?_;refine vr1 st results58 ?_;refine⟨?_,rfl⟩;rw [Value.bool.injEq]
 (symm;apply qR7;assumption)
 intro hg17;(try simp only [dn] at hg17);refine a1 ?_;refine zA3 (zA1 [_] rfl rfl call124 rfl (qX3 _ _) ?_);rintro _ w ⟨rfl,rfl⟩;refine a3 ?_;refine vif ?_ ?_;intro hc20;(try simp only [dn] at hc20);refine a7 ?_;refine vr1 st results58 ?_;refine⟨?_,rfl⟩;rw [Value.bool.injEq]
 (symm;apply qX0;assumption)
 intro hc20;(try simp only [dn] at hc20);refine a9 ?_;refine zC (w0:=_) (M:=_) (fun (m:Nat)=>[(0,str l),(3,.int .i64 (m:Int))]) (fun _=>[]) (fun m w'=>m≤l.length∧(l.take m).all zF4=true∧w'=w) (fun m=>l.length - m) 0 ⟨rfl,rfl,trivial⟩ st ⟨by omega,by simp,rfl⟩ ?_;rintro m w' ⟨hm,hall,rfl⟩ st;refine a5 ?_;refine vy (zH8 rfl qU9) ?_;refine a3 ?_;refine vif ?_ ?_;intro hc24;(try simp only [dn] at hc24);refine a8 ?_;refine vy (zP1 (k:=_) rfl rfl qU9 rfl (by omega)) ?_;refine zA3 (zA1 [_] rfl rfl call125 rfl (zX0 _ _) ?_);rintro _ w ⟨rfl,rfl⟩;refine a1 ?_;refine vmb ?_ ?_;intro hg32;(try simp only [dn] at hg32);refine a2 ?_;refine vy (zP1 (k:=_) rfl rfl qU9 rfl (by omega)) ?_;refine zA3 (zA1 [_] rfl rfl call123 rfl (zS2 _ _) ?_);rintro _ w ⟨rfl,rfl⟩;refine a4 ?_;refine vif ?_ ?_;intro hc38;(try simp only [dn] at hc38);refine a11 ?_;refine vr1 st results58 ?_;refine⟨?_,rfl⟩;rw [Value.bool.injEq]
 (symm;rw [qN5 (by(intro h;subst h;simp at *)) (by omega) (by assumption) (by assumption)];exact gU7 (m:=m) (by omega) (by simp only [zF4, *,Bool.or_true,Bool.true_or,Bool.or_self]))
 intro hc38;(try simp only [dn] at hc38);refine a5 ?_;refine vy (zK2 rfl rfl rfl (by omega) (by omega)) ?_;refine a2 ?_;refine zA7 (m+1) ⟨rfl,rfl,trivial⟩ st ?_ ?_;exact⟨by omega,zP3 (by omega) hall (by simp only [zF4, *,Bool.or_true,Bool.true_or,Bool.or_self]),rfl⟩;omega;intro hg32;(try simp only [dn] at hg32);refine a14 ?_;refine vy (zK2 rfl rfl rfl (by omega) (by omega)) ?_;refine a2 ?_;refine zA7 (m+1) ⟨rfl,rfl,trivial⟩ st ?_ ?_;exact⟨by omega,zP3 (by omega) hall (by simp only [zF4, *,Bool.or_true,Bool.true_or,Bool.or_self]),rfl⟩;omega;intro hc24;(try simp only [dn] at hc24);refine a11 ?_;refine vr1 st results58 ?_;refine⟨?_,rfl⟩;rw [Value.bool.injEq]
 (symm;rw [qN5 (by(intro h;subst h;simp at *)) (by omega) (by assumption) (by assumption)];rw [List.take_of_length_le (by omega)] at hall;exact hall)
end Go.Proofs.YtnmhlpnapgojjaaGreatDoor
/- Blanks and remarks between tokens: no program in sight. -/
namespace LexS
end LexS
/- Tokens,their places left out: no program in sight. -/
namespace LexS
theorem gX1 {r:List UInt8} {i:Nat} {t:Tok} {T:List Tok} {f:Option (Nat×Nat)} (h:zY3 r i=(t::T,f)) :
    skip r<r.length∧zK7 (r.drop (skip r)) (i+skip r)=.tok t∧zY3 (r.drop (skip r+t.text.length)) (i+skip r+t.text.length)=(T,f):=by
  rcases Nat.lt_or_ge (skip r) r.length with hk|hk
  · cases hx:zK7 (r.drop (skip r)) (i+skip r) with
    | bad rule q=>rw [qB1 hk hx] at h;simp at h
    | tok x=>
      rw [zX8 hk hx] at h
      simp only [Prod.mk.injEq,List.cons.injEq] at h
      obtain⟨⟨rfl,h1⟩,h2⟩:=h
      exact⟨hk,rfl,Prod.ext h1 h2⟩
  · rw [zW3 hk] at h;simp at h
end LexS
/- Plain laws on tokens that are told: which are right,and that printed they are cut again. -/
namespace LexS
def kZ (l:List UInt8):Option Nat:=if l=[]∨(1<l.length∧l.getD 0 0=48)∨l.all zB5=false∨9223372036854775807<zG6 l then none else some (zG6 l)
def jJ3 (t:List UInt8) (k w:Int):Bool:=match zK7 t 0 with | .tok x=>decide (x.text=t∧(x.kind:Int)=k∧(x.word:Int)=w) | .bad _ _=>false
def qO2 (t:List UInt8) (k w:Int):Bool:=
  (decide (k=1) && zH4 t && decide (w=0)) || (decide (k=2) && zP0 t && decide (w=0)) || (decide (k=3) && decide ((kZ t).map (fun n:Nat=>(n:Int))=some w)) || (decide (k=4) && zM1 t && decide (w=0))
theorem gP5 {p:UInt8→Bool}:∀ {l:List UInt8},l.all p=true→l.takeWhile p=l
  | [],_=>rfl
  | c::l,h=>by
    simp only [List.all_cons,Bool.and_eq_true] at h
    rw [List.takeWhile_cons,if_pos h.1,gP5 h.2]
theorem kN7 (p:UInt8→Bool):∀ (l:List UInt8),(l.takeWhile p).all p=true
  | []=>rfl
  | c::l=>by
    rw [List.takeWhile_cons]
    split
    · rename_i h;simp [h,kN7 p l]
    · rfl
theorem qE2 {c:UInt8} (h:zB5 c=true):zE9 c=false:=by
  simp only [zB5,zE9,decide_eq_true_eq,decide_eq_false_iff_not] at *;omega
theorem kX2 {t:List UInt8} (h:zP0 t=true):zK7 t 0=.tok ⟨2,t,0,0⟩:=by
  simp only [zP0,decide_eq_true_eq] at h
  rcases h with h|h|h|h|h|h|h|h|h|h <;> subst h <;> decide
theorem kY1 {t:List UInt8} (h:zM1 t=true):zK7 t 0=.tok ⟨4,t,0,0⟩:=by
  simp only [zM1,Bool.or_eq_true] at h
  rcases h with h|h
  · simp only [zG1,decide_eq_true_eq] at h
    rcases h with h|h|h|h|h|h <;> subst h <;> decide
  · match t,h with
    | [],h=>simp [zK1] at h
    | _::_::_,h=>simp [zK1] at h
    | [c],h=>
      simp only [zK1,signs1,List.contains_iff_mem,List.mem_cons,List.not_mem_nil,or_false] at h
      rcases h with h|h|h|h|h|h|h|h|h|h|h|h|h|h|h|h|h|h <;> subst h <;> decide
theorem kV {t:List UInt8} (h:zH4 t=true):zK7 t 0=.tok ⟨1,t,0,0⟩:=by
  match t,h with
  | [],h=>simp [zH4] at h
  | c::r,h=>
    simp only [zH4,Bool.and_eq_true,decide_eq_true_eq,Bool.not_eq_true'] at h
    obtain⟨⟨⟨h1,h2⟩,h3⟩,h4⟩:=h
    have hc:zE9 c=true:=by
      have:=h4
      simp only [List.all_cons,Bool.and_eq_true,zF4,Bool.or_eq_true,h2,Bool.false_eq_true,or_false] at this
      exact this.1
    simp only [zK7,hc,if_true,gP5 h4,h3,Bool.false_eq_true,if_false]
    rw [if_neg (by omega)]
theorem jH1 {t:List UInt8} {n:Nat} (h:kZ t=some n):zK7 t 0=.tok ⟨3,t,n,0⟩:=by
  unfold kZ at h
  split at h
  · cases h
  · rename_i hn
    cases h
    simp only [not_or,Bool.not_eq_false] at hn
    obtain⟨h1,h2,h3,h4⟩:=hn
    match t,h1 with
    | c::r,_=>
      have hd:zB5 c=true:=by simp only [List.all_cons,Bool.and_eq_true] at h3;exact h3.1
      simp only [zK7,qE2 hd,hd,Bool.false_eq_true,if_false,if_true,gP5 h3]
      rw [if_neg (by rintro (h|h);exact h2 ⟨h.1,by simpa using h.2⟩;omega)]
      simp
theorem qO5 {r:List UInt8} {i:Nat} {x:Tok} (h:zK7 r i=.tok x):(x.kind=1∧zH4 x.text=true∧x.word=0)∨(x.kind=2∧zP0 x.text=true∧x.word=0)∨(x.kind=3∧kZ x.text=some x.word)∨(x.kind=4∧zM1 x.text=true∧x.word=0):=by
  match r,h with
  | [],h=>simp [zK7] at h
  | c::r,h=>
    simp only [zK7] at h
    split at h
    · rename_i hc
      split at h
      · rename_i hw;cases h;exact .inr (.inl ⟨rfl,hw,rfl⟩)
      · rename_i hw
        split at h
        · cases h
        · rename_i hl
          cases h
          refine .inl ⟨rfl,?_,rfl⟩
          have hi:zF4 c=true:=by simp [zF4,hc]
          have ha:=kN7 zF4 (c::r)
          have hnd:zB5 c=false:=by
            simp only [zB5,zE9,decide_eq_true_eq,decide_eq_false_iff_not] at *;omega
          rw [List.takeWhile_cons,if_pos hi] at hw hl ha ⊢
          simp only [zH4,hnd,ha,Bool.not_eq_true] at *
          simp only [hw]
          simp at hl ⊢
          omega
    · split at h
      · rename_i hc hd
        split at h
        · cases h
        · rename_i hn
          have key:kZ ((c::r).takeWhile zB5)=some (zG6 ((c::r).takeWhile zB5)):=by
            unfold kZ
            rw [if_neg]
            have ha:=kN7 zB5 (c::r)
            rw [List.takeWhile_cons,if_pos hd] at hn ha ⊢
            rintro (h|h|h|h)
            · cases h
            · exact hn (.inl ⟨h.1,by simpa using h.2⟩)
            · rw [ha] at h;cases h
            · exact hn (.inr h)
          split at h
          · split at h
            · cases h
            · cases h;exact .inr (.inr (.inl ⟨rfl,key⟩))
          · cases h;exact .inr (.inr (.inl ⟨rfl,key⟩))
      · split at h
        · rename_i hs
          cases h;exact .inr (.inr (.inr ⟨rfl,by show zM1 _=true;unfold zM1;rw [hs];rfl,rfl⟩))
        · split at h
          · rename_i hs
            cases h;exact .inr (.inr (.inr ⟨rfl,by simp [zM1,hs],rfl⟩))
          · cases h
theorem kO4 (t:List UInt8) (k w:Int):jJ3 t k w=qO2 t k w:=by
  rw [Bool.eq_iff_iff]
  constructor
  · intro h
    unfold jJ3 at h
    split at h
    · rename_i x hx
      simp only [decide_eq_true_eq] at h
      obtain⟨h1,rfl,rfl⟩:=h
      have:=qO5 hx
      rw [h1] at this
      unfold qO2
      rcases this with ⟨a,b,c⟩|⟨a,b,c⟩|⟨a,b⟩|⟨a,b,c⟩ <;> simp [a,b] <;> (try simp [c])
    · cases h
  · intro h
    unfold qO2 at h
    simp only [Bool.or_eq_true,Bool.and_eq_true,decide_eq_true_eq] at h
    unfold jJ3
    rcases h with ((⟨⟨rfl,h⟩,rfl⟩|⟨⟨rfl,h⟩,rfl⟩)|⟨rfl,h⟩)|⟨⟨rfl,h⟩,rfl⟩
    · rw [kV h];simp
    · rw [kX2 h];simp
    · cases hn:kZ t with
      | none=>rw [hn] at h;cases h
      | some n=>rw [hn] at h;simp at h;subst h;rw [jH1 hn];simp
    · rw [kY1 h];simp
theorem jL7 {r:List UInt8} {i:Nat} {x:Tok} (h:zK7 r i=.tok x):jJ3 x.text x.kind x.word=true:=by
  rw [kO4]
  unfold qO2
  rcases qO5 h with ⟨a,b,c⟩|⟨a,b,c⟩|⟨a,b⟩|⟨a,b,c⟩ <;> simp [a,b] <;> (try simp [c])
theorem gC1:∀ (T:List Tok) (r:List UInt8) (i:Nat) (f:Option (Nat×Nat)),zY3 r i=(T,f)→∀ x∈T,jJ3 x.text x.kind x.word=true
  | [],r,i,f,h,x,hx=>by simp at hx
  | t::T,r,i,f,h,x,hx=>by
    obtain⟨h1,h2,h3⟩:=gX1 h
    rcases List.mem_cons.1 hx with rfl|hx
    · exact jL7 h2
    · exact gC1 T _ _ _ h3 x hx
end LexS
/- Plain laws on numbers as texts: they are cut as one number. -/
namespace LexS
def kU9:Nat→Nat→List UInt8
  | 0,n=>[UInt8.ofNat (48+n % 10)]
  | k+1,n=>if n<10 then [UInt8.ofNat (48+n)] else kU9 k (n / 10)++[UInt8.ofNat (48+n % 10)]
def dec (n:Nat):List UInt8:=kU9 n n
theorem gM8:∀ (k j n:Nat),n≤k→n≤j→kU9 k n=kU9 j n
  | 0,0,n,_,_=>rfl
  | 0,j+1,n,h,_=>by
    obtain rfl:n=0:=by omega
    simp [kU9]
  | k+1,0,n,_,h=>by
    obtain rfl:n=0:=by omega
    simp [kU9]
  | k+1,j+1,n,h1,h2=>by
    simp only [kU9]
    split
    · rfl
    · rw [gM8 k j (n / 10) (by omega) (by omega)]
theorem zR1 {n:Nat} (h:n<10):dec n=[UInt8.ofNat (48+n)]:=by
  unfold dec
  cases n with
  | zero=>rfl
  | succ n=>simp only [kU9];rw [if_pos h]
theorem qK7 {n:Nat} (h:10≤n):dec n=dec (n / 10)++[UInt8.ofNat (48+n % 10)]:=by
  unfold dec
  obtain⟨m,rfl⟩:∃ m,n=m+1:=⟨n - 1,by omega⟩
  simp only [kU9]
  rw [if_neg (by omega),gM8 m ((m+1) / 10) _ (by omega) (by omega)]
theorem zT1 {d:Nat} (h:d<10):zB5 (UInt8.ofNat (48+d))=true∧(UInt8.ofNat (48+d)).toNat=48+d:=by
  have e:(UInt8.ofNat (48+d)).toNat=48+d:=by
    rw [UInt8.toNat_ofNat'];omega
  refine⟨?_,e⟩
  simp only [zB5,decide_eq_true_eq,e];omega
theorem gI4 (P:Nat→Prop) (h1:∀ n,n<10→P n) (h2:∀ n,10≤n→P (n / 10)→P n) (n:Nat):P n:=by
  induction n using Nat.strongRecOn with
  | _ n ih=>
    rcases Nat.lt_or_ge n 10 with h|h
    · exact h1 n h
    · exact h2 n h (ih (n / 10) (by omega))
theorem gO4 (n:Nat):(dec n).all zB5=true:=by
  refine gI4 (fun n=>(dec n).all zB5=true) (fun n h=>?_) (fun n h ih=>?_) n
  · rw [zR1 h,List.all_cons,(zT1 h).1];rfl
  · rw [qK7 h,List.all_append,ih,List.all_cons,(zT1 (Nat.mod_lt n (by omega:0<10))).1];rfl
theorem jG3 (n:Nat):zG6 (dec n)=n:=by
  refine gI4 (fun n=>zG6 (dec n)=n) (fun n h=>?_) (fun n h ih=>?_) n
  · rw [zR1 h];simp only [zG6,List.foldl_cons,List.foldl_nil,(zT1 h).2];omega
  · rw [qK7 h,qC2,ih,(zT1 (Nat.mod_lt n (by omega:0<10))).2];omega
theorem qW8 (n:Nat):1≤(dec n).length:=by
  refine gI4 (fun n=>1≤(dec n).length) (fun n h=>?_) (fun n h ih=>?_) n
  · rw [zR1 h];simp
  · rw [qK7 h];simp
theorem qV (k:Nat):∀ n,n<10 ^ (k+1)→(dec n).length≤k+1:=by
  induction k with
  | zero=>intro n h;rw [zR1 (by simpa using h)];simp
  | succ k ih=>
    intro n h
    rcases Nat.lt_or_ge n 10 with h1|h1
    · rw [zR1 h1];simp
    · rw [qK7 h1]
      have:=ih (n / 10) (by rw [Nat.div_lt_iff_lt_mul (by omega)];rw [Nat.pow_succ] at h;exact h)
      simp;omega
theorem jA2 (n:Nat):10≤n→(dec n).getD 0 0≠48∧True:=by
  have key:∀ n,1≤n→(dec n).getD 0 0≠48:=by
    refine gI4 (fun n=>1≤n→(dec n).getD 0 0≠48) (fun n h h1=>?_) (fun n h ih h1=>?_)
    · rw [zR1 h]
      intro e
      have e2:=congrArg UInt8.toNat (by simpa using e:UInt8.ofNat (48+n)=48)
      rw [(zT1 h).2] at e2
      simp at e2;omega
    · rw [qK7 h]
      have hp:=qW8 (n / 10)
      have:=ih (by omega)
      simp only [List.getD] at this ⊢
      rw [List.getElem?_append_left (by omega)]
      exact this
  exact fun h=>⟨key n (by omega),trivial⟩
theorem kZ7 (n:Nat) (c:UInt8) (r:List UInt8) (h:dec n=c::r):¬(1<(dec n).length∧c=48):=by
  rintro ⟨h1,rfl⟩
  have h10:10≤n:=by
    rcases Nat.lt_or_ge n 10 with h2|h2
    · rw [zR1 h2] at h1;simp at h1
    · exact h2
  exact(jA2 n h10).1 (by rw [h];rfl)
theorem kY3 (n:Nat) (Z:List UInt8):skip (dec n++Z)=0:=by
  have hp:=qW8 n
  have ha:=gO4 n
  obtain⟨c,r,hd⟩:∃ c r,dec n=c::r:=by
    match hq:dec n,hp with
    | c::r,_=>exact⟨c,r,rfl⟩
  have hc:zB5 c=true:=by rw [hd,List.all_cons,Bool.and_eq_true] at ha;exact ha.1
  have hcn:48≤c.toNat∧c.toNat≤57:=by simpa [zB5] using hc
  rw [hd,List.cons_append]
  refine zQ8 (by simp only [zQ2,decide_eq_false_iff_not];omega) ?_
  cases hr:r++Z with
  | nil=>rfl
  | cons d q=>
    simp only [zT5,decide_eq_false_iff_not]
    rintro ⟨rfl,-⟩
    simp at hcn
def shw (w:Int):List UInt8:=if w<0 then 45::dec w.natAbs else dec w.natAbs
end LexS
/- The operators,their signs and levels: no program in sight. -/
namespace LexS
def sgnT:List (List UInt8×Int):=[([],0),([43],7),([45],7),([42],8),([47],8),([37],8),([38],3),([124],1),([94],2),([60,60],6),([62,62],6),([61,61],4),([33,61],4),([60],5),([60,61],5),([62],5),([62,61],5),([45],9),([33],9)]
def sgn (k:Nat):List UInt8:=(sgnT.getD k ([],0)).1
def lvl (k:Nat):Int:=(sgnT.getD k ([],0)).2
def zL5 (k:Int):Bool:=decide (0<k∧k<19)
def zP9 (k:Int):Bool:=decide (0<k∧k<17)
def qA0 (k:Int):List UInt8:=if zL5 k=true then sgn k.toNat else []
def zI8 (k:Int):Int:=if zL5 k=true then lvl k.toNat else 0
theorem jA0 (m:Nat) (h:m<19):qA0 (m:Int)=sgn m:=by
  unfold qA0
  split
  · rfl
  · rename_i hk
    have:m=0:=by simp [zL5] at hk;omega
    subst this;rfl
theorem kW (m:Nat) (h:m<19):zI8 (m:Int)=lvl m:=by
  unfold zI8
  split
  · rfl
  · rename_i hk
    have:m=0:=by simp [zL5] at hk;omega
    subst this;rfl
theorem kV4 (k:Int) (h:19≤k):qA0 k=[]:=by
  unfold qA0;rw [if_neg (by simp [zL5];omega)]
theorem kW9 (k:Int) (h:19≤k):zI8 k=0:=by
  unfold zI8;rw [if_neg (by simp [zL5];omega)]
theorem kR8:∀ m,m<19→(sgn m).length≤2:=by decide
theorem qM3 (k:Int):(qA0 k).length≤2:=by
  unfold qA0
  split
  · rename_i h
    simp [zL5] at h
    exact kR8 _ (by omega)
  · simp
def qI9 (k:Int):Bool:=decide (k=17∨k=18)
def zN9 (s:List UInt8):Option Nat:=(List.range 19).find? fun k=>zP9 (k:Int) && decide (sgn k=s)
end LexS
namespace Go.Proofs.YtnmhlpnapgojjaaGreatDoor
open Go.RowKit Sx LexS _root_.Go.Proofs.Tryz
def Sig (w:World):Prop:=∀ k,k<19→w.cell? ⟨0,k*2,none⟩=some (str (sgn k))∧w.cell? ⟨0,k*2+1,none⟩=some (.int .i64 (lvl k))
theorem Sig.kept {w w':World} (h:Sig w) (c:Chg [] w w'):Sig w':=fun k hk=>⟨c.cell (h k hk).1 (by simp),c.cell (h k hk).2 (by simp)⟩
theorem qA6 (k:Int) (w:World):Ret Tryz.prog 157 [.int .u8 k] w fun v w'=>v=.bool (zL5 k)∧w'=w:=by
 refine zB [_] func157 rfl ntmps157 rfl ?_;have st:=St.init w [];refine a9 ?_;refine vmb ?_ ?_;intro hg5;(try simp only [dn] at hg5);refine a3 ?_
 rotate_left
 intro hg5;(try simp only [dn] at hg5);refine a3 ?_
 all_goals
  refine a4 ?_;refine vr1 st results157 ?_;refine⟨?_,rfl⟩;congr 1;unfold zL5
  (symm;simp;omega)
theorem gP7 (k:Int) (w:World):Ret Tryz.prog 104 [.int .u8 k] w fun v w'=>v=.bool (zP9 k)∧w'=w:=by
 refine zB [_] func104 rfl ntmps104 rfl ?_;have st:=St.init w [];refine a8 ?_;refine zA3 (zA1 [_] rfl rfl call157 rfl (qA6 _ _) ?_);rintro _ _ ⟨rfl,rfl⟩;refine vmb ?_ ?_
 focus
  intro hg5;refine a3 ?_;refine vmb ?_ ?_;intro hg9;refine a3 ?_
  rotate_left
  intro hg9;refine a3 ?_
 rotate_left 2
 intro hg5;refine a7 ?_
 all_goals
  refine a4 ?_;refine vr1 st results104 ?_;refine⟨?_,rfl⟩;show Value.bool _=Value.bool _;congr 1;unfold zL5 at *;unfold zP9;simp only [decide_eq_true_eq,decide_eq_false_iff_not,Bool.not_eq_true',Bool.not_eq_false'] at *
  first|(symm;rw [decide_eq_false_iff_not];omega)|(rw [Bool.eq_iff_iff];simp only [Bool.not_eq_true',decide_eq_false_iff_not,decide_eq_true_eq];omega)
theorem kU2 (k:Int) (w:World) (hs:Sig w):Ret Tryz.prog 107 [.int .u8 k] w fun v w'=>v=str (if zL5 k=true then sgn k.toNat else [])∧w'=w:=by
 refine zB [_] func107 rfl ntmps107 rfl ?_;have st:=St.init w [];refine a9 ?_;refine zA3 (zA1 [_] rfl rfl call157 rfl (qA6 _ _) ?_);rintro _ _ ⟨rfl,rfl⟩;refine a3 ?_;refine vif ?_ ?_;intro hc5;refine a7 ?_;refine vr1 st results107 ?_;refine⟨?_,rfl⟩;rw [if_neg (by simpa using hc5)];intro hc5;have hk:0<k∧k<19:=by simpa [zL5] using hc5
 obtain⟨m,rfl⟩:∃ m:Nat,k=(m:Int):=⟨k.toNat,by omega⟩
 refine a5 ?_;refine vy (gB0 (k:=m) rfl rfl underlying204 sizeOf203 rfl (by omega)) ?_;refine vy (zC3 rfl underlying203 rfl rfl qZ9 rfl) ?_;refine vy ((by exact zD8 rfl qA9 (by have h:=(hs m (by omega)).1;rw [Nat.zero_add];exact h))) ?_;refine a4 ?_;refine vr1 st results107 ?_;refine⟨?_,rfl⟩;rw [if_pos (by simpa using hc5)];rfl
abbrev zs (k:Nat):List Value:=List.replicate k (.int .u8 0)
theorem jB3 (k:Nat) (t:List UInt8) (c:UInt8) (x:Int) (hx:(c.toNat:Int)=x) (hk:0<k):(zs k++zE2 t).set (k - 1) (.int .u8 x)=zs (k - 1)++zE2 (c::t):=by
 obtain⟨m,rfl⟩:∃ m,k=m+1:=⟨k - 1,by omega⟩
 have e:zs (m+1)=zs m++[.int .u8 0]:=by simp [zs,List.replicate_succ']
 rw [e,Nat.add_sub_cancel,List.append_assoc,List.set_append_right _ _ (by simp)];subst hx;simp
theorem jB (k:Nat) (t:List UInt8):(zs k++zE2 t).length=k+t.length:=by simp
theorem jA7 {w:World} {b k E:Nat} {t:List UInt8} {c:Nat} (h:w.heap[b]?=some (.cells (zs k++zE2 t).toArray E (0,0))):gT4 w (some ⟨b,0+k*1,none⟩) c (zE2 t):=
 .inr ⟨b,0+k*1,rfl,fun j u hj=>zO h (by
   rw [zL8,List.getElem?_append_right (by simp)]
   simpa [show 0+k*1+j - k=j by omega] using hj)⟩
set_option maxHeartbeats 1000000 in
theorem qQ1 (x:Int) (w:World) (hx:-9223372036854775808≤x∧x≤9223372036854775807):Ret Tryz.prog 76 [.int .i64 x] w fun v w'=>v=str (shw x)∧Chg [] w w':=by
 refine zB [_] func76 rfl ntmps76 rfl ?_;have st:=St.init w [];obtain⟨w0,rfl⟩:∃ w0,w0=w:=⟨_,rfl⟩
 have hdl:=qV 18 x.natAbs (by simp only [Nat.reducePow,Nat.reduceAdd];omega);refine sr ?_;refine ya ?_;refine et (vk1 0 (sr ?_));refine zA3 (zF8 (l:=[_,_,_,_,_,_,_,_,_,_,_,_,_,_,_,_,_,_,_,_]) st rfl rfl zeroValue181 rfl ?_);intro b3 w hb3 st;refine et (vk2 0 3 (sr ?_));refine ya ?_;refine et (vk3 0 3 4 (sr ?_));refine ym ?_;refine vy (qB7 rfl qU182 qU2 (rfl:_=IntKind.u64.wrap x)) ?_;refine ya ?_;refine et (vk4 0 3 4 5 ?_);refine zL2 (w0:=w0) (M:=[]) (fun (_:Unit)=>[(0,.int .i64 x),(3,.pointer (some ⟨b3,0,none⟩)),(4,.int .i64 20),(5,.int .u64 (x.natAbs:Int))]) (fun _=>[.blk b3 (.cells (zs 20++zE2 []).toArray 181 (0,0))]) (fun _ _=>True) ?_ ?_;refine zC5 ?_;refine zB4 ?_;refine ym ?_;refine vy (zM5 rfl rfl) ?_;refine et (vk5 0 3 4 5 9 ?_);refine vif ?_ ?_;intro hc9;(try simp only [dn] at hc9);refine zB4 ?_;refine ym ?_;refine vy (jM3 rfl (by rw [zF7,zF7];omega:_=(x.natAbs:Int))) ?_;refine ya ?_;refine zI6 ?_;exact zB8 () ⟨rfl,rfl,rfl,rfl,trivial⟩ st trivial;intro hc9;(try simp only [dn] at hc9);refine zA5 ?_;exact zB8 () ⟨rfl,rfl,rfl,by simp only [find,Nat.beq];congr 2;rw [zF7];omega,trivial⟩ st trivial;clear st;rintro ⟨⟩ w - st;refine zC5 (zD6 ?_);refine zC (w0:=_) (M:=_) (fun (y:Nat×Nat×List UInt8)=>[(0,.int .i64 x),(3,.pointer (some ⟨b3,0,none⟩)),(4,.int .i64 (y.1:Int)),(5,.int .u64 (y.2.1:Int))]) (fun y=>[.blk b3 (.cells (zs y.1++zE2 y.2.2).toArray 181 (0,0))]) (fun y _=>y.1+y.2.2.length=20∧dec y.2.1++y.2.2=dec x.natAbs∧y.2.1≤x.natAbs) (fun y=>y.1) (20,x.natAbs,[]) ⟨rfl,rfl,rfl,rfl,trivial⟩ st ⟨rfl,by simp,by simp⟩ ?_;rintro ⟨at_,n,t⟩ w ⟨hat,hdec,hnx⟩ st;dsimp only at *;have hdp:=qW8 n;have hlen:=congrArg List.length hdec;rw [List.length_append] at hlen;obtain⟨hdg1,hdg2⟩:=zT1 (Nat.mod_lt n (by omega:0<10));refine zD6 (sr ?_);refine ym ?_;refine vy (qF4 rfl rfl (by omega:_=((at_ - 1:Nat):Int)) (by omega) (by omega)) ?_;refine ya ?_;refine et (vk4 0 3 4 5 (sr ?_));(iterate 2 refine ym ?_);refine vy (jA5 rfl rfl (by omega) (by omega) (by omega:_=((n % 10:Nat):Int))) ?_;refine vy (qJ1 rfl rfl (by rw [zF7];omega:_=((48+n % 10:Nat):Int))) ?_;refine vy (qB7 rfl qU5 qU182 (by rw [qD2];omega:_=((48+n % 10:Nat):Int))) ?_;refine vy (gB0 (k:=(at_ - 1)) rfl rfl underlying181 qZ5 rfl (by omega)) ?_;refine zA3 (jK5 (l':=zs (at_ - 1)++zE2 (UInt8.ofNat (48+n % 10)::t)) st 0 rfl rfl rfl rfl qZ5 rfl (by rw [jB];omega) (by rw [show 0+(at_ - 1)*1=at_ - 1 by omega];exact jB3 at_ t (UInt8.ofNat (48+n % 10)) _ (by rw [hdg2]) (by omega)) (.inr hb3) ?_);intro w st;dsimp only [zA0] at st;refine et (vk4 0 3 4 5 (sr ?_));refine ym ?_
 refine vy (gL2 rfl rfl (by omega) (by omega) (by rw [zF7];omega:_=((n / 10:Nat):Int))) ?_;refine ya ?_;refine et (vk4 0 3 4 5 (sr ?_));refine ym ?_;refine vy (zK5 rfl rfl) ?_;refine et (vk5 0 3 4 5 23 ?_);refine vif ?_ ?_;intro hc23;(try simp only [dn] at hc23);have hn:n<10:=by omega
 have hfin:UInt8.ofNat (48+n % 10)::t=dec x.natAbs:=by rw [← hdec,zR1 hn,Nat.mod_eq_of_lt hn];rfl
 rw [hfin] at st;have hlen2:=congrArg List.length hfin;simp only [List.length_cons] at hlen2;refine zJ1 (zD5 rfl (zB3 (zC0 (zA6 (vk3 0 3 4 (zC5 (sr ?_)))))));refine ym ?_;refine vy (zM5 rfl rfl) ?_;refine et (vk3 3 4 25 ?_);refine vif ?_ ?_;intro hc25;(try simp only [dn] at hc25);refine sr ?_;refine ym ?_;refine vy (qF4 rfl rfl (by omega:_=((at_ - 2:Nat):Int)) (by omega) (by omega)) ?_;refine ya ?_;refine et (vk2 3 4 (zB4 ?_));refine ym ?_;refine vy (gB0 (k:=(at_ - 2)) rfl rfl underlying181 qZ5 rfl (by omega)) ?_;refine zA3 (jK5 (l':=zs (at_ - 2)++zE2 (45::dec x.natAbs)) st 0 rfl rfl rfl rfl qZ5 rfl (by rw [jB];omega) (by rw [show 0+(at_ - 2)*1=(at_ - 1) - 1 by omega];have:=jB3 (at_ - 1) (dec x.natAbs) 45 45 (by rfl) (by omega);rw [show at_ - 1 - 1=at_ - 2 by omega] at this ⊢;exact this) (.inr hb3) ?_);intro w st;dsimp only [zA0] at st;refine et (vk2 3 4 (sr ?_));refine ym ?_;refine vy (jI9 (i:=_) rfl rfl underlying181 qZ5 rfl (by omega)) ?_;refine vy (qY5 rfl (jA7 (st.res (i:=0) rfl)) (by(simp only [List.length_cons];omega)) qU78 qU5 qU9) ?_;refine ya ?_;refine et (vk1 2 (zA8 ?_));refine vr1 st results76 ?_;refine⟨?_,st.chg⟩;unfold shw;rw [if_pos (by omega)];intro hc25;(try simp only [dn] at hc25);refine kt (vk2 3 4 (sr ?_));refine ym ?_;refine vy (jI9 (i:=_) rfl rfl underlying181 qZ5 rfl (by omega)) ?_;refine vy (qY5 rfl (jA7 (st.res (i:=0) rfl)) (by omega) qU78 qU5 qU9) ?_;refine ya ?_;refine et (vk1 2 (zA8 ?_));refine vr1 st results76 ?_;refine⟨?_,st.chg⟩;unfold shw;rw [if_neg (by omega)];intro hc23;(try simp only [dn] at hc23);refine zA5 (zE0 ?_);refine zA7 (at_ - 1,n / 10,UInt8.ofNat (48+n % 10)::t)  ⟨rfl,rfl,rfl,rfl,trivial⟩ st ?_ ?_;refine⟨by simp;omega,?_,by dsimp only;omega⟩;dsimp only;rw [← hdec,qK7 (n:=n) (by omega)];simp;dsimp only;omega
def sgnV:List Value:=[str (sgn 0),str (sgn 1),str (sgn 2),str (sgn 3),str (sgn 4),str (sgn 5),str (sgn 6),str (sgn 7),str (sgn 8),str (sgn 9),str (sgn 10),str (sgn 11),str (sgn 12),str (sgn 13),str (sgn 14),str (sgn 15),str (sgn 16),str (sgn 17),str (sgn 18)]
def lvlV:List Value:=[.int .i64 (lvl 0),.int .i64 (lvl 1),.int .i64 (lvl 2),.int .i64 (lvl 3),.int .i64 (lvl 4),.int .i64 (lvl 5),.int .i64 (lvl 6),.int .i64 (lvl 7),.int .i64 (lvl 8),.int .i64 (lvl 9),.int .i64 (lvl 10),.int .i64 (lvl 11),.int .i64 (lvl 12),.int .i64 (lvl 13),.int .i64 (lvl 14),.int .i64 (lvl 15),.int .i64 (lvl 16),.int .i64 (lvl 17),.int .i64 (lvl 18)]
theorem jD3:∀ m,m<19→nth sgnV m=some (str (sgn m))
 | 0,_=>rfl
 | 1,_=>rfl
 | 2,_=>rfl
 | 3,_=>rfl
 | 4,_=>rfl
 | 5,_=>rfl
 | 6,_=>rfl
 | 7,_=>rfl
 | 8,_=>rfl
 | 9,_=>rfl
 | 10,_=>rfl
 | 11,_=>rfl
 | 12,_=>rfl
 | 13,_=>rfl
 | 14,_=>rfl
 | 15,_=>rfl
 | 16,_=>rfl
 | 17,_=>rfl
 | 18,_=>rfl
 | n+19,h=>by omega
theorem jG7:∀ m,m<19→nth lvlV m=some (.int .i64 (lvl m))
 | 0,_=>rfl
 | 1,_=>rfl
 | 2,_=>rfl
 | 3,_=>rfl
 | 4,_=>rfl
 | 5,_=>rfl
 | 6,_=>rfl
 | 7,_=>rfl
 | 8,_=>rfl
 | 9,_=>rfl
 | 10,_=>rfl
 | 11,_=>rfl
 | 12,_=>rfl
 | 13,_=>rfl
 | 14,_=>rfl
 | 15,_=>rfl
 | 16,_=>rfl
 | 17,_=>rfl
 | 18,_=>rfl
 | n+19,h=>by omega
theorem zD7 {w:World} {b off E:Nat} {l:List Value} {v:Value} (h:w.heap[b]?=some (.cells l.toArray E (0,0))) (hv:nth l off=some v):w.cell? ⟨b,off,none⟩=some v:=zO h hv
theorem zR3 (k:Int) (w:World) (hs:Sig w):Ret Tryz.prog 105 [.int .u8 k] w fun v w'=>v=.int .i64 (zI8 k)∧w'=w:=by
 refine zB [_] func105 rfl ntmps105 rfl ?_;have st:=St.init w [];refine a9 ?_;refine zA3 (zA1 [_] rfl rfl call157 rfl (qA6 _ _) ?_);rintro _ _ ⟨rfl,rfl⟩;refine a3 ?_;refine vif ?_ ?_;intro hc5;refine a7 ?_;refine vr1 st results105 ?_;refine⟨?_,rfl⟩;unfold zI8;rw [if_neg (by simpa using hc5)];intro hc5;have hk:0<k∧k<19:=by simpa [zL5] using hc5
 obtain⟨m,rfl⟩:∃ m:Nat,k=(m:Int):=⟨k.toNat,by omega⟩
 refine a5 ?_;refine vy (gB0 (k:=m) rfl rfl underlying204 sizeOf203 rfl (by omega)) ?_;refine vy (zU9 (k:=1) rfl underlying203 rfl rfl qZ3 rfl) ?_;refine vy ((by exact zD8 rfl qA3 (by have h:=(hs m (by omega)).2;rw [Nat.zero_add];exact h))) ?_;refine a4 ?_;refine vr1 st results105 ?_;refine⟨?_,rfl⟩;unfold zI8;rw [if_pos (by simpa using hc5)];rfl
theorem qO0 (k:Int) (hk:0≤k) (w:World):Ret Tryz.prog 238 [.int .u8 k] w fun v w'=>v=str (qA0 k)∧Chg [] w w':=by
 refine zB [_] func238 rfl ntmps238 rfl ?_;have st:=St.init w [];refine a12 ?_;refine vif ?_ ?_;intro hc4;(try simp only [dn] at hc4);refine a7 ?_;refine vr1 st results238 ?_;refine⟨?_,st.chg⟩;rw [kV4 k (by omega)];intro hc4;(try simp only [dn] at hc4);obtain⟨m,rfl⟩:∃ m:Nat,k=(m:Int):=⟨k.toNat,by omega⟩
 refine a4 ?_;refine zA3 (zY7 (l:=sgnV) (E:=9) st [(0,_),(1,_),(2,_),(3,_),(4,_),(5,_),(6,_),(7,_),(8,_),(9,_),(10,_),(11,_),(12,_),(13,_),(14,_),(15,_),(16,_),(17,_),(18,_)] rfl rfl rfl (fun w=>by simp [Instr.buildSlice,run_underlying qU50,qZ9,qV9,Instr.fill,newRow,newObj,Sem.run,go_sem];rfl) ?_);intro b5 w hb5 st;refine a1 ?_;refine vy (qA (k:=m) rfl rfl qU50 qZ9 rfl (by omega)) ?_;refine vy ((by exact zD8 rfl qA9 (zD7 (st.res (i:=0) rfl) (by rw [Nat.mul_one];exact jD3 m (by omega))))) ?_;refine a4 ?_;refine vr1 st results238 ?_;refine⟨?_,st.chg⟩;rw [jA0 m (by omega)]
theorem qA7 (k:Int) (hk:0≤k) (w:World):Ret Tryz.prog 250 [.int .u8 k] w fun v w'=>v=.int .i64 (zI8 k)∧Chg [] w w':=by
 refine zB [_] func250 rfl ntmps250 rfl ?_;have st:=St.init w [];refine a12 ?_;refine vif ?_ ?_;intro hc4;(try simp only [dn] at hc4);refine a7 ?_;refine vr1 st results250 ?_;refine⟨?_,st.chg⟩;rw [kW9 k (by omega)];intro hc4;(try simp only [dn] at hc4);obtain⟨m,rfl⟩:∃ m:Nat,k=(m:Int):=⟨k.toNat,by omega⟩
 refine a4 ?_;refine zA3 (zY7 (l:=lvlV) (E:=3) st [(0,_),(1,_),(2,_),(3,_),(4,_),(5,_),(6,_),(7,_),(8,_),(9,_),(10,_),(11,_),(12,_),(13,_),(14,_),(15,_),(16,_),(17,_),(18,_)] rfl rfl rfl (fun w=>by simp [Instr.buildSlice,run_underlying underlying262,qZ3,qV3,Instr.fill,newRow,newObj,Sem.run,go_sem];rfl) ?_);intro b5 w hb5 st;refine a1 ?_;refine vy (qA (k:=m) rfl rfl underlying262 qZ3 rfl (by omega)) ?_;refine vy ((by exact zD8 rfl qA3 (zD7 (st.res (i:=0) rfl) (by rw [Nat.mul_one];exact jG7 m (by omega))))) ?_;refine a4 ?_;refine vr1 st results250 ?_;refine⟨?_,st.chg⟩;rw [kW m (by omega)]
theorem kU1 (k:Int) (w:World):Ret Tryz.prog 235 [.int .u8 k] w fun v w'=>v=.bool (zP9 k)∧w'=w:=by
 refine zB [_] func235 rfl ntmps235 rfl ?_;have st:=St.init w [];refine a9 ?_;refine vmb ?_ ?_;intro hg5;(try simp only [dn] at hg5);refine a3 ?_
 rotate_left
 intro hg5;(try simp only [dn] at hg5);refine a3 ?_
 all_goals
  refine a4 ?_;refine vr1 st results235 ?_;refine⟨?_,rfl⟩;show Value.bool _=Value.bool _;congr 1;unfold zP9
  first|(symm;rw [decide_eq_false_iff_not];omega)|(rw [Bool.eq_iff_iff];simp only [decide_eq_true_eq];omega)
theorem kU3 (k:Int) (w:World):Ret Tryz.prog 234 [.int .u8 k] w fun v w'=>v=.bool (qI9 k)∧w'=w:=by
 refine zB [_] func234 rfl ntmps234 rfl ?_;have st:=St.init w [];refine a9 ?_;refine vmb ?_ ?_;intro hg5;(try simp only [dn] at hg5);refine a3 ?_
 rotate_left
 intro hg5;(try simp only [dn] at hg5);refine a3 ?_
 all_goals
  refine a4 ?_;refine vr1 st results234 ?_;refine⟨?_,rfl⟩;show Value.bool _=Value.bool _;congr 1;unfold qI9
  first|(symm;rw [decide_eq_true_eq];omega)|(rw [Bool.eq_iff_iff];simp only [decide_eq_true_eq];omega)
theorem gG {w:World} {b E:Nat} {t:UInt8} {x:Int} {c:Nat} (hx:x=(t.toNat:Int)) (h:w.heap[b]?=some (.cells [Value.int .u8 x].toArray E (0,0))):gT4 w (some ⟨b,0,none⟩) c (zE2 [t]):=by
 subst hx;exact .inr ⟨b,0,rfl,fun j u hj=>zO h (by rw [zL8];simpa using hj)⟩
theorem qU8:∀ (n:Nat),n≤18446744073709551615→∀ w:World,Ret Tryz.prog 215 [.int .u64 (n:Int)] w fun v w'=>v=str (dec n)∧Chg [] w w':=by
 intro n;refine Nat.strongRecOn n fun n ih=>?_
 intro hn w;refine zB [_] func215 rfl ntmps215 rfl ?_;have st:=St.init w [];refine a12 ?_;refine vif ?_ ?_;intro hc4;(try simp only [dn] at hc4);refine a3 ?_;refine vy (qJ1 rfl rfl (by rw [zF7];omega:_=((48+n:Nat):Int))) ?_;refine vy (qB7 rfl qU5 qU182 (by rw [qD2];omega:_=((48+n:Nat):Int))) ?_;refine zA3 (zI4 (l:=[_]) st rfl rfl rfl rfl qU78 qZ5 rfl rfl rfl qV5 ?_);intro b8 w hb8 st;refine vy (qY5 rfl (gG (t:=UInt8.ofNat (48+n)) (by rw [(zT1 (d:=n) (by omega)).2]) (st.res (i:=0) rfl)) rfl qU78 qU5 qU9) ?_;refine a5 ?_;refine vr1 st results215 ?_;refine⟨?_,st.chg⟩;rw [zR1 (by omega)];intro hc4;(try simp only [dn] at hc4);refine a3 ?_;refine jJ1 Tryz.mixed (.take 0 (.take 1 (.take 3 (.take 4 (.take 5 (.take 6 (.two 2 7 (.one 7 (.one 8 (.take 9 (.take 10 .done)))) (.two 2 8 (.one 8 (.take 9 (.take 10 .done))) (.one 2 (.take 9 (.take 10 .done))))))))))) st ?_;clear st;intro w st hS;refine dm hS ?_;refine zD9 rfl rfl rfl hS (fun w st=>gL2 rfl rfl (by omega) (by omega) (by rw [zF7];omega:_=((n / 10:Nat):Int))) ?_;refine dm hS ?_;refine zD9 rfl rfl rfl hS (fun w st=>jA5 rfl rfl (by omega) (by omega) (by omega:_=((n % 10:Nat):Int))) ?_;refine zD9 rfl rfl rfl hS (fun w st=>qJ1 rfl rfl (by rw [zF7];omega:_=((48+n % 10:Nat):Int))) ?_;refine zD9 rfl rfl rfl hS (fun w st=>qB7 rfl qU5 qU182 (by rw [qD2];omega:_=((48+n % 10:Nat):Int))) ?_;refine zU1 rfl rfl ?_ ?_;refine(zA1 [_] rfl rfl call215 rfl (ih (n / 10) (by omega) (by omega) _) ?_);rintro _ w ⟨rfl,cw⟩;replace st:=st.call0 cw;refine zB2 (by exact st) ?_;intro hS;refine zG rfl (zI4 (l:=[_]) st rfl rfl rfl rfl qU78 qZ5 rfl rfl rfl qV5 ?_);intro b17 w hb17 st;refine zB2 st.dr ?_;intro hS;refine zG rfl (zU6 rfl rfl (qY5 rfl (gG (t:=UInt8.ofNat (48+n % 10)) (by rw [(zT1 (d:=n % 10) (by omega)).2]) (st.res (i:=0) rfl)) rfl qU78 qU5 qU9) ?_)
 rotate_left
 focus
  refine(zI4 (l:=[_]) st rfl rfl rfl rfl qU78 qZ5 rfl rfl rfl qV5 ?_);intro b17 w hb17 st;refine zB2 st.dr ?_;intro hS;refine zU1 rfl rfl ?_ ?_;refine(zA1 [_] rfl rfl call215 rfl (ih (n / 10) (by omega) (by omega) _) ?_);rintro _ w ⟨rfl,cw⟩;replace st:=st.call0 cw;refine zB2 st.dr ?_;intro hS;refine zG rfl (zU6 rfl rfl (qY5 rfl (gG (t:=UInt8.ofNat (48+n % 10)) (by rw [(zT1 (d:=n % 10) (by omega)).2]) (st.res (i:=0) rfl)) rfl qU78 qU5 qU9) ?_)
  rotate_left
  refine(zU6 rfl rfl (qY5 rfl (gG (t:=UInt8.ofNat (48+n % 10)) (by rw [(zT1 (d:=n % 10) (by omega)).2]) (st.res (i:=0) rfl)) rfl qU78 qU5 qU9) ?_);refine zB2 st.dr ?_;intro hS;refine zG rfl (zA1 [_] rfl rfl call215 rfl (ih (n / 10) (by omega) (by omega) _) ?_);rintro _ w ⟨rfl,cw⟩;replace st:=st.call0 cw
 all_goals
  refine zB2 st.dr ?_;intro hS;refine zD9 rfl rfl rfl hS (fun w st=>qV8 rfl rfl (by have h:=qV 19 (n / 10) (by simp only [Nat.reducePow,Nat.reduceAdd];omega);simp only [List.length_cons,List.length_nil];omega)) ?_;refine zD9 rfl rfl rfl hS (fun w st=>qL1 rfl) ?_;refine zV (zA6 (zA8 ?_));refine vr1 st results215 ?_;refine⟨?_,st.chg⟩;rw [qK7 (n:=n) (by omega)]
theorem gF2 (x:Int) (w:World) (hx:-9223372036854775808≤x∧x≤9223372036854775807):Ret Tryz.prog 172 [.int .i64 x] w fun v w'=>v=str (shw x)∧Chg [] w w':=by
 refine zB [_] func172 rfl ntmps172 rfl ?_;have st:=St.init w [];refine a12 ?_;refine vif ?_ ?_;intro hc4;(try simp only [dn] at hc4);refine a3 ?_;refine vy (qB7 rfl qU182 qU2 (by rw [zF7];omega:_=((x.natAbs:Nat):Int))) ?_;refine zA3 (zA1 [_] rfl rfl call215 rfl (qU8 x.natAbs (by omega) _) ?_);rintro _ w ⟨rfl,cw⟩;replace st:=st.call0 cw;refine a5 ?_;refine vr1 st results172 ?_;refine⟨?_,st.chg⟩;unfold shw;rw [if_neg (by omega)];intro hc4;(try simp only [dn] at hc4);refine a5 ?_;refine vy (qB7 rfl qU182 qU2 (rfl:_=IntKind.u64.wrap x)) ?_;refine vy (qV4 rfl rfl (by rw [zF7,zF7];omega:_=((x.natAbs:Nat):Int))) ?_;refine zA3 (zA1 [_] rfl rfl call215 rfl (qU8 x.natAbs (by omega) _) ?_);rintro _ w ⟨rfl,cw⟩;replace st:=st.call0 cw;refine vy (qV8 rfl rfl (by have h:=qV 19 x.natAbs (by simp only [Nat.reducePow,Nat.reduceAdd];omega);simp only [List.length_cons,List.length_nil];omega)) ?_;refine a4 ?_;refine vr1 st results172 ?_;refine⟨?_,st.chg⟩;unfold shw;rw [if_pos (by omega)];rfl
theorem kH8 (l:List UInt8) (b:Bool) (w:World):Ret Tryz.prog 149 [str l,.bool b] w fun v w'=>v=.bool (if b=true then zH4 l else decide (l=[]))∧w'=w:=by
 refine zB [_,_] func149 rfl ntmps149 rfl ?_;have st:=St.init w [];refine a8 ?_;refine vmb ?_ ?_
 focus
  intro hg6;refine a1 ?_;refine zA3 (zA1 [_] rfl rfl call52 rfl (qU _ _) ?_);rintro _ _ ⟨rfl,rfl⟩;refine a1 ?_;refine vmb ?_ ?_;intro hg10;refine a7 ?_
  rotate_left
  focus
   intro hg10;refine a2 ?_;refine vmb ?_ ?_;intro hg13;refine a3 ?_
   rotate_left
   intro hg13;refine a3 ?_
   all_goals
    refine a1 ?_
 rotate_left 3
 focus
  intro hg6;refine a6 ?_;refine vmb ?_ ?_;intro hg13;refine a3 ?_
  rotate_left
  intro hg13;refine a3 ?_
  all_goals
   refine a1 ?_
 all_goals
  refine a4 ?_;refine vr1 st results149 ?_;refine⟨?_,rfl⟩;show Value.bool _=Value.bool _;congr 1;cases b <;> simp_all
end Go.Proofs.YtnmhlpnapgojjaaGreatDoor
/- When a tree may be written,and its text: no program in sight. -/
namespace LexS
open Sx
def inn (op:Int) (x:Ex) (second:Bool):Bool:=decide (x.k=4) && (decide (zI8 x.op<zI8 op) || second && decide (zI8 x.op=zI8 op))
def zB9:Ex→Nat→Bool
  | .mk k op wd nm kids a,d=>decide (d≤64) && (
    if k=1 then decide (0≤wd∧op=0∧nm=[]∧kids.length=0)
    else if k=2 then zH4 nm && decide (op=0∧wd=0∧kids.length=0)
    else if k=3 then qI9 op && decide (wd=0∧nm=[]) && (match kids with | [x]=>zB9 x (if x.k=4 then d+2 else d+1)|_=>false)
    else if k=4 then zP9 op && decide (wd=0∧nm=[]) && (match kids with | [x,y]=>zB9 x (if inn op x false=true then d+1 else d) && zB9 y (if inn op y true=true then d+1 else d)|_=>false)
    else false)
def par (b:Bool) (l:List UInt8):List UInt8:=if b=true then [40]++l++[41] else l
def txtE:Ex→List UInt8
  | .mk k op wd nm kids a=>if k=1 then shw wd else if k=2 then nm else if k=3 then qA0 op++(match kids with | [x]=>par (decide (x.k=4)) (txtE x)|_=>[])
    else (match kids with | [x,y]=>par (inn op x false) (txtE x)++([32]++qA0 op++[32])++par (inn op y true) (txtE y)|_=>[])
def mar (d:Nat):List UInt8:=List.replicate (2*d) 32
def qF6 (k:Int):Bool:=decide (k=1∨k=2∨k=5)
def zW9 (k:Int):Bool:=decide (k=1∨k=2∨k=3∨k=4∨k=6)
def qA1 (k:Int):Bool:=decide (k=3∨k=4∨k=5)
def zR9 (b:Bool) (l:List UInt8):Bool:=if b=true then zH4 l else decide (l=[])
def zH5 (b:Bool) (e:List Ex):Bool:=if b=true then (match e with | [x]=>zB9 x 0|_=>false) else decide (e.length=0)
mutual
def zH9:Sm→Nat→Bool
  | .mk k nm other e body els a,d=>decide (1≤k∧k≤7) && zR9 (qF6 k) nm && zR9 (decide (k=2)) other && zH5 (zW9 k) e && (qA1 k || decide (body.length=0)) && (decide (k=3) || decide (els.length=0)) &&
    (!(qA1 k || decide (0<els.length)) || decide (d<64)) && zE3 body (d+1) && zE3 els (d+1)
termination_by structural s=>s
def zE3:List Sm→Nat→Bool
  | [],_=>true
  | s::r,d=>zH9 s d && zE3 r d
termination_by structural l=>l
end
def txX (e:List Ex):List UInt8:=match e with|x::_=>txtE x | []=>[]
mutual
def qK6:Sm→Nat→List UInt8
  | .mk k nm other e body els a,d=>
    if k=1 then mar d++(nm++[32,61,32]++txX e++[59,10])
    else if k=2 then mar d++(nm++[32,61,32,115,119,97,112,40]++other++[44,32]++txX e++[41,59,10])
    else if k=6 then mar d++([112,114,105,110,116,32]++txX e++[59,10])
    else if k=7 then mar d++[115,107,105,112,59,10]
    else if k=5 then mar d++([108,111,99,107,32]++nm++[32,123,10])++zJ6 body (d+1)++mar d++[125,10]
    else mar d++((if k=4 then [119,104,105,108,101,32,40] else [105,102,32,40])++txX e++[41,32,123,10])++zJ6 body (d+1)++(if 0<els.length then mar d++[125,32,101,108,115,101,32,123,10]++zJ6 els (d+1) else [])++mar d++[125,10]
termination_by structural s=>s
def zJ6:List Sm→Nat→List UInt8
  | [],_=>[]
  | s::r,d=>qK6 s d++zJ6 r d
termination_by structural l=>l
end
def zQ1 (shared:Bool) (x:Dc):Bool:=zH4 x.nm && (if shared=true then decide (x.wd≠-9223372036854775808) else decide (x.wd=0))
def qL2 (t:Th):Bool:=zH4 t.nm && t.locals.all (zQ1 false) && zE3 t.body 1
def qD4 (p:Pg):Bool:=p.shared.all (zQ1 true) && p.locks.all (zQ1 false) && p.threads.all qL2
def dcT (x:Dc):List UInt8:=x.nm++(if x.wd=0 then [] else [32,61,32]++shw x.wd)
def zU:List (List UInt8)→List UInt8
  | []=>[]
  | [x]=>x
  | x::y::r=>x++[44,32]++zU (y::r)
def gD5 (word:List UInt8) (d:Nat) (l:List Dc):List UInt8:=if l.length=0 then [] else mar d++(word++[32]++zU (l.map dcT)++[59,10])
def thT (t:Th):List UInt8:=([116,104,114,101,97,100,32]++t.nm++[32,123,10])++gD5 [108,111,99,97,108] 1 t.locals++zJ6 t.body 1++[125,10]
def pgT (p:Pg):List UInt8:=gD5 [115,104,97,114,101,100] 0 p.shared++gD5 [108,111,99,107] 0 p.locks++(p.threads.map thT).flatten
def zY6 (p:Pg):List UInt8×Nat:=if qD4 p=true then (if (pgT p).length≤65536 then (pgT p,0) else ([],4)) else ([],40)
end LexS
