/- A part of the proof: contracts of functions and plain laws; each theorem says its own conditions. -/
import Derived.Lib.Bytealg
import Derived.Test.YtkhpdpenlnhbiaaGreatDoorTopLoweredK3
import Derived.Test.YtkhpdpenlnhbiaaGreatDoorTopLoweredK6
import Derived.Test.YtkhpdpenlnhbiaaGreatDoorTopLoweredK5
set_option linter.unusedVariables false
set_option linter.unusedSimpArgs false
/- What the lexer computes,in plain words: no program in sight. -/
namespace LexS
def isLetter (c:UInt8):Bool:=decide (97≤c.toNat∧c.toNat≤122∨65≤c.toNat∧c.toNat≤90∨c.toNat=95)
def isDigit (c:UInt8):Bool:=decide (48≤c.toNat∧c.toNat≤57)
def isBlank (c:UInt8):Bool:=decide (c.toNat=32∨c.toNat=9∨c.toNat=10∨c.toNat=13)
def isIdent (c:UInt8):Bool:=isLetter c || isDigit c
def wShared:List UInt8:=[115,104,97,114,101,100]
def wLock:List UInt8:=[108,111,99,107]
def wThread:List UInt8:=[116,104,114,101,97,100]
def wLocal:List UInt8:=[108,111,99,97,108]
def wIf:List UInt8:=[105,102]
def wElse:List UInt8:=[101,108,115,101]
def wWhile:List UInt8:=[119,104,105,108,101]
def wPrint:List UInt8:=[112,114,105,110,116]
def wSkip:List UInt8:=[115,107,105,112]
def wSwap:List UInt8:=[115,119,97,112]
def isWord (l:List UInt8):Bool:=decide (l=wShared∨l=wLock∨l=wThread∨l=wLocal∨l=wIf∨l=wElse∨l=wWhile∨l=wPrint∨l=wSkip∨l=wSwap)
def isSign2 (l:List UInt8):Bool:=decide (l=[61,61]∨l=[33,61]∨l=[60,61]∨l=[62,61]∨l=[60,60]∨l=[62,62])
def signs1:List UInt8:=[40,41,123,125,44,59,61,43,45,42,47,37,38,124,94,33,60,62]
def isSign1 (l:List UInt8):Bool:=match l with | [c]=>signs1.contains c|_=>false
def isSign (l:List UInt8):Bool:=isSign2 l || isSign1 l
def isName (l:List UInt8):Bool:=match l with
  | []=>false
  | c::_=>decide (l.length≤32) && !isDigit c && !isWord l && l.all isIdent
def toLf:List UInt8→Nat
  | []=>0
  | c::r=>if c=10 then 0 else toLf r+1
def isRem (l:List UInt8):Bool:=match l with|a::b::_=>decide (a=47∧b=47)|_=>false
def skipF:Nat→List UInt8→Nat
  | 0,_=>0
  | _+1,[]=>0
  | k+1,c::r=>if isBlank c then skipF k r+1 else if isRem (c::r) then toLf (c::r)+skipF k ((c::r).drop (toLf (c::r))) else 0
def skip (l:List UInt8):Nat:=skipF (l.length+1) l
theorem toLf_le (l:List UInt8):toLf l≤l.length:=by
  induction l with
  | nil=>simp [toLf]
  | cons c r ih=>simp only [toLf];split <;> simp <;> omega
theorem toLf_pos {l:List UInt8} (h:isRem l=true):0<toLf l:=by
  match l with
  | []=>simp [isRem] at h
  | [_]=>simp [isRem] at h
  | a::b::r=>
    simp [isRem] at h
    obtain⟨rfl,rfl⟩:=h
    simp [toLf]
theorem skipF_fuel:∀ (k j:Nat) (l:List UInt8),l.length<k→l.length<j→skipF k l=skipF j l
  | 0,j,l,h,_=>by omega
  | k+1,0,l,_,h=>by omega
  | k+1,j+1,[],_,_=>rfl
  | k+1,j+1,c::r,h1,h2=>by
    simp only [List.length_cons] at h1 h2
    simp only [skipF]
    split
    · rw [skipF_fuel k j r (by omega) (by omega)]
    · split
      · rename_i hr
        have hp:=toLf_pos hr
        have hl:((c::r).drop (toLf (c::r))).length<r.length+1:=by simp only [List.length_drop,List.length_cons];omega
        rw [skipF_fuel k j _ (by omega) (by omega)]
      · rfl
theorem skip_nil:skip []=0:=rfl
theorem skip_blank {c:UInt8} {r:List UInt8} (h:isBlank c=true):skip (c::r)=skip r+1:=by
  unfold skip
  simp only [List.length_cons,skipF,h,if_true]
theorem skip_rem {l:List UInt8} (h:isRem l=true):skip l=toLf l+skip (l.drop (toLf l)):=by
  match l,h with
  | [],h=>simp [isRem] at h
  | c::r,h=>
    have hb:isBlank c=false:=by
      match r,h with
      | [],h=>simp [isRem] at h
      | b::r,h=>
        simp [isRem] at h
        obtain⟨rfl,rfl⟩:=h
        decide
    have hp:=toLf_pos h
    unfold skip
    simp only [List.length_cons,skipF,hb,h,if_true]
    simp only [Bool.false_eq_true,if_false]
    rw [skipF_fuel (r.length+1) (((c::r).drop (toLf (c::r))).length+1)]
    · simp only [List.length_drop,List.length_cons];omega
    · omega
theorem skip_other {c:UInt8} {r:List UInt8} (h:isBlank c=false) (hr:isRem (c::r)=false):skip (c::r)=0:=by
  unfold skip
  simp only [List.length_cons,skipF,h,hr,Bool.false_eq_true,if_false]
theorem skip_le (l:List UInt8):skip l≤l.length:=by
  have key:∀ n (l:List UInt8),l.length=n→skip l≤l.length:=by
    intro n
    induction n using Nat.strongRecOn with
    | _ n ih=>
      intro l hl
      match l with
      | []=>simp [skip_nil]
      | c::r=>
        cases hb:isBlank c with
        | true=>
          rw [skip_blank hb]
          have:=ih r.length (by simp at hl;omega) r rfl
          simp;omega
        | false=>
          cases hr:isRem (c::r) with
          | true=>
            rw [skip_rem hr]
            have hp:=toLf_pos hr
            have hle:=toLf_le (c::r)
            have:=ih ((c::r).drop (toLf (c::r))).length (by simp only [List.length_drop,List.length_cons] at *;omega) _ rfl
            simp only [List.length_drop] at this
            omega
          | false=>rw [skip_other hb hr];simp
  exact key _ l rfl
theorem indexByte_lf (l:List UInt8):Go.Lib.indexByte l 10= -1∧toLf l=l.length∨Go.Lib.indexByte l 10=(toLf l:Int)∧0≤Go.Lib.indexByte l 10:=by
  induction l with
  | nil=>left;simp [Go.Lib.indexByte,toLf]
  | cons c r ih=>
    simp only [Go.Lib.indexByte,toLf]
    by_cases hc:c=10
    · subst hc;right;simp
    · have hc':(c == 10)=false:=by simpa using hc
      simp only [hc',hc,if_false,Bool.false_eq_true]
      rcases ih with ⟨h1,h2⟩|⟨h1,h2⟩
      · left;simp [h1,h2]
      · right
        have:¬ (Go.Lib.indexByte r 10 == -1)=true:=by simp;omega
        rw [if_neg this,h1]
        constructor
        · omega
        · omega
theorem contains_ib (l:List UInt8) (c:UInt8):decide (0≤Go.Lib.indexByte l c)=l.contains c:=by
  have h:(0≤Go.Lib.indexByte l c)↔c∈l:=by
    induction l with
    | nil=>simp [Go.Lib.indexByte]
    | cons b r ih=>
      have hge:=Go.Lib.indexByte_ge r c
      simp only [Go.Lib.indexByte]
      by_cases hb:b=c
      · subst hb;simp
      · have hb':(b == c)=false:=by simpa using hb
        simp only [hb',Bool.false_eq_true,if_false,List.mem_cons,Ne.symm hb,false_or,← ih]
        split
        · rename_i h;simp at h;omega
        · rename_i h;simp at h;omega
  rw [Bool.eq_iff_iff];simp [h]
structure Tok where
  kind:Nat
  text:List UInt8
  word:Nat
  at_:Nat
  deriving DecidableEq,Repr
def numVal (l:List UInt8):Nat:=l.foldl (fun n c=>10*n+(c.toNat - 48)) 0
theorem numVal_snoc (l:List UInt8) (c:UInt8):numVal (l++[c])=10*numVal l+(c.toNat - 48):=by simp [numVal]
inductive TokR where
  | tok (t:Tok)
  | bad (rule at_:Nat)
  deriving DecidableEq,Repr
def tokAt (r:List UInt8) (i:Nat):TokR:=match r with
  | []=>.bad 1 i
  | c::_=>
    if isLetter c then
      let t:=r.takeWhile isIdent
      if isWord t then .tok ⟨2,t,0,i⟩ else if 32<t.length then .bad 2 (i+32) else .tok ⟨1,t,0,i⟩
    else if isDigit c then
      let t:=r.takeWhile isDigit
      if (1<t.length∧c=48)∨9223372036854775807<numVal t then .bad 3 i
      else match r.drop t.length with
        | d::_=>if isLetter d then .bad 4 (i+t.length) else .tok ⟨3,t,numVal t,i⟩
        | []=>.tok ⟨3,t,numVal t,i⟩
    else if isSign2 (r.take 2) then .tok ⟨4,r.take 2,0,i⟩
    else if isSign1 [c] then .tok ⟨4,[c],0,i⟩
    else .bad 1 i
def scanF:Nat→List UInt8→Nat→List Tok×Option (Nat×Nat)
  | 0,_,_=>([],none)
  | k+1,r,i=>
    match r.drop (skip r) with
    | []=>([],none)
    | c::r'=>match tokAt (c::r') (i+skip r) with
      | .bad rule p=>([],some (rule,p))
      | .tok t=>((t::(scanF k ((c::r').drop t.text.length) (i+skip r+t.text.length)).1),(scanF k ((c::r').drop t.text.length) (i+skip r+t.text.length)).2)
def front (s:List UInt8):List Tok×Option (Nat×Nat):=scanF (s.length+1) s 0
theorem tok_len {r:List UInt8} {i:Nat} {t:Tok} (h:tokAt r i=.tok t):1≤t.text.length∧t.text=r.take t.text.length∧t.at_=i:=by
  match r,h with
  | [],h=>simp [tokAt] at h
  | c::r,h=>
    have htw:∀ p:UInt8→Bool,(c::r).takeWhile p=(c::r).take ((c::r).takeWhile p).length:=fun p=>by
      have h:=List.takeWhile_append_dropWhile (p:=p) (l:=c::r)
      have h2:(c::r).take ((c::r).takeWhile p).length=((c::r).takeWhile p++(c::r).dropWhile p).take ((c::r).takeWhile p).length:=by rw [h]
      rw [h2,List.take_left']
      rfl
    have hpos:∀ p:UInt8→Bool,p c=true→1≤((c::r).takeWhile p).length:=fun p hp=>by rw [List.takeWhile_cons,if_pos hp];simp
    have h2:∀ l:List UInt8,isSign2 l=true→l.length=2:=fun l hl=>by
      simp only [isSign2,decide_eq_true_eq] at hl
      rcases hl with h|h|h|h|h|h <;> simp [h]
    simp only [tokAt] at h
    split at h
    · rename_i hc
      have hi:isIdent c=true:=by simp [isIdent,hc]
      split at h
      · cases h;exact⟨hpos _ hi,htw _,rfl⟩
      · split at h
        · cases h
        · cases h;exact⟨hpos _ hi,htw _,rfl⟩
    · split at h
      · rename_i hd
        split at h
        · cases h
        · split at h
          · split at h
            · cases h
            · cases h;exact⟨hpos _ hd,htw _,rfl⟩
          · cases h;exact⟨hpos _ hd,htw _,rfl⟩
      · split at h
        · rename_i hs
          cases h
          have hl:=h2 _ hs
          exact⟨by dsimp only;omega,by dsimp only;rw [hl],rfl⟩
        · split at h
          · cases h;exact⟨by simp,by simp,rfl⟩
          · cases h
theorem scanF_fuel:∀ (k j:Nat) (r:List UInt8) (i:Nat),r.length<k→r.length<j→scanF k r i=scanF j r i
  | 0,_,_,_,h,_=>by omega
  | _+1,0,_,_,_,h=>by omega
  | k+1,j+1,r,i,h1,h2=>by
    simp only [scanF]
    cases hd:r.drop (skip r) with
    | nil=>rfl
    | cons c r'=>
      have hl:(c::r').length≤r.length:=by rw [← hd];simp
      cases ht:tokAt (c::r') (i+skip r) with
      | bad rule p=>simp only [ht]
      | tok t=>
        have h3:=(tok_len ht).1
        have h4:1≤(c::r').length:=by simp
        have e:=scanF_fuel k j ((c::r').drop t.text.length) (i+skip r+t.text.length) (by simp only [List.length_drop];omega) (by simp only [List.length_drop];omega)
        simp only [ht,e]
def scanA (r:List UInt8) (i:Nat):List Tok×Option (Nat×Nat):=scanF (r.length+1) r i
theorem front_eq (s:List UInt8):front s=scanA s 0:=rfl
theorem scanA_end {r:List UInt8} {i:Nat} (h:r.length≤skip r):scanA r i=([],none):=by
  simp only [scanA,scanF]
  rw [List.drop_eq_nil_of_le h]
theorem scanA_bad {r:List UInt8} {i rule p:Nat} (h:skip r<r.length) (hb:tokAt (r.drop (skip r)) (i+skip r)=.bad rule p):scanA r i=([],some (rule,p)):=by
  simp only [scanA,scanF]
  cases hd:r.drop (skip r) with
  | nil=>have:=congrArg List.length hd;simp at this;omega
  | cons c r'=>rw [hd] at hb;simp only [hb]
theorem scanA_tok {r:List UInt8} {i:Nat} {t:Tok} (h:skip r<r.length) (hb:tokAt (r.drop (skip r)) (i+skip r)=.tok t) :
    scanA r i=(t::(scanA (r.drop (skip r+t.text.length)) (i+skip r+t.text.length)).1,(scanA (r.drop (skip r+t.text.length)) (i+skip r+t.text.length)).2):=by
  have h3:=(tok_len hb).1
  have e:scanA (r.drop (skip r+t.text.length)) (i+skip r+t.text.length)=scanF r.length (r.drop (skip r+t.text.length)) (i+skip r+t.text.length):=
    scanF_fuel _ _ _ _ (by omega) (by simp only [List.length_drop];omega)
  rw [e]
  simp only [scanA,scanF]
  cases hd:r.drop (skip r) with
  | nil=>have:=congrArg List.length hd;simp at this;omega
  | cons c r'=>
    rw [hd] at hb
    simp only [hb]
    rw [← hd,List.drop_drop]
def scanRes (s:List UInt8):List Tok×Nat×Nat×Nat:=
  if 65536<s.length then ([],4,0,0) else match (front s).2 with
    | none=>((front s).1,0,0,0)
    | some (rule,p)=>([],20,p,rule)
end LexS
/- Blanks and remarks between tokens: no program in sight. -/
namespace LexS
end LexS
/- Tokens,their places left out: no program in sight. -/
namespace LexS
theorem scan_inv {r:List UInt8} {i:Nat} {t:Tok} {T:List Tok} {f:Option (Nat×Nat)} (h:scanA r i=(t::T,f)) :
    skip r<r.length∧tokAt (r.drop (skip r)) (i+skip r)=.tok t∧scanA (r.drop (skip r+t.text.length)) (i+skip r+t.text.length)=(T,f):=by
  rcases Nat.lt_or_ge (skip r) r.length with hk|hk
  · cases hx:tokAt (r.drop (skip r)) (i+skip r) with
    | bad rule q=>rw [scanA_bad hk hx] at h;simp at h
    | tok x=>
      rw [scanA_tok hk hx] at h
      simp only [Prod.mk.injEq,List.cons.injEq] at h
      obtain⟨⟨rfl,h1⟩,h2⟩:=h
      exact⟨hk,rfl,Prod.ext h1 h2⟩
  · rw [scanA_end hk] at h;simp at h
end LexS
/- Plain laws on tokens that are told: which are right,and that printed they are cut again. -/
namespace LexS
def numV (l:List UInt8):Option Nat:=if l=[]∨(1<l.length∧l.getD 0 0=48)∨l.all isDigit=false∨9223372036854775807<numVal l then none else some (numVal l)
theorem tw_all (p:UInt8→Bool):∀ (l:List UInt8),(l.takeWhile p).all p=true
  | []=>rfl
  | c::l=>by
    rw [List.takeWhile_cons]
    split
    · rename_i h;simp [h,tw_all p l]
    · rfl
theorem tok_right {r:List UInt8} {i:Nat} {x:Tok} (h:tokAt r i=.tok x):(x.kind=1∧isName x.text=true∧x.word=0)∨(x.kind=2∧isWord x.text=true∧x.word=0)∨(x.kind=3∧numV x.text=some x.word)∨(x.kind=4∧isSign x.text=true∧x.word=0):=by
  match r,h with
  | [],h=>simp [tokAt] at h
  | c::r,h=>
    simp only [tokAt] at h
    split at h
    · rename_i hc
      split at h
      · rename_i hw;cases h;exact .inr (.inl ⟨rfl,hw,rfl⟩)
      · rename_i hw
        split at h
        · cases h
        · rename_i hl
          cases h
          refine .inl ⟨rfl,?_,rfl⟩
          have hi:isIdent c=true:=by simp [isIdent,hc]
          have ha:=tw_all isIdent (c::r)
          have hnd:isDigit c=false:=by
            simp only [isDigit,isLetter,decide_eq_true_eq,decide_eq_false_iff_not] at *;omega
          rw [List.takeWhile_cons,if_pos hi] at hw hl ha ⊢
          simp only [isName,hnd,ha,Bool.not_eq_true] at *
          simp only [hw]
          simp at hl ⊢
          omega
    · split at h
      · rename_i hc hd
        split at h
        · cases h
        · rename_i hn
          have key:numV ((c::r).takeWhile isDigit)=some (numVal ((c::r).takeWhile isDigit)):=by
            unfold numV
            rw [if_neg]
            have ha:=tw_all isDigit (c::r)
            rw [List.takeWhile_cons,if_pos hd] at hn ha ⊢
            rintro (h|h|h|h)
            · cases h
            · exact hn (.inl ⟨h.1,by simpa using h.2⟩)
            · rw [ha] at h;cases h
            · exact hn (.inr h)
          split at h
          · split at h
            · cases h
            · cases h;exact .inr (.inr (.inl ⟨rfl,key⟩))
          · cases h;exact .inr (.inr (.inl ⟨rfl,key⟩))
      · split at h
        · rename_i hs
          cases h;exact .inr (.inr (.inr ⟨rfl,by show isSign _=true;unfold isSign;rw [hs];rfl,rfl⟩))
        · split at h
          · rename_i hs
            cases h;exact .inr (.inr (.inr ⟨rfl,by simp [isSign,hs],rfl⟩))
          · cases h
end LexS
/- Plain laws on numbers as texts: they are cut as one number. -/
namespace LexS
def decF:Nat→Nat→List UInt8
  | 0,n=>[UInt8.ofNat (48+n % 10)]
  | k+1,n=>if n<10 then [UInt8.ofNat (48+n)] else decF k (n / 10)++[UInt8.ofNat (48+n % 10)]
def dec (n:Nat):List UInt8:=decF n n
theorem decF_fuel:∀ (k j n:Nat),n≤k→n≤j→decF k n=decF j n
  | 0,0,n,_,_=>rfl
  | 0,j+1,n,h,_=>by
    obtain rfl:n=0:=by omega
    simp [decF]
  | k+1,0,n,_,h=>by
    obtain rfl:n=0:=by omega
    simp [decF]
  | k+1,j+1,n,h1,h2=>by
    simp only [decF]
    split
    · rfl
    · rw [decF_fuel k j (n / 10) (by omega) (by omega)]
theorem dec_small {n:Nat} (h:n<10):dec n=[UInt8.ofNat (48+n)]:=by
  unfold dec
  cases n with
  | zero=>rfl
  | succ n=>simp only [decF];rw [if_pos h]
theorem dec_big {n:Nat} (h:10≤n):dec n=dec (n / 10)++[UInt8.ofNat (48+n % 10)]:=by
  unfold dec
  obtain⟨m,rfl⟩:∃ m,n=m+1:=⟨n - 1,by omega⟩
  simp only [decF]
  rw [if_neg (by omega),decF_fuel m ((m+1) / 10) _ (by omega) (by omega)]
theorem digit_of {d:Nat} (h:d<10):isDigit (UInt8.ofNat (48+d))=true∧(UInt8.ofNat (48+d)).toNat=48+d:=by
  have e:(UInt8.ofNat (48+d)).toNat=48+d:=by
    rw [UInt8.toNat_ofNat'];omega
  refine⟨?_,e⟩
  simp only [isDigit,decide_eq_true_eq,e];omega
theorem dec_ind (P:Nat→Prop) (h1:∀ n,n<10→P n) (h2:∀ n,10≤n→P (n / 10)→P n) (n:Nat):P n:=by
  induction n using Nat.strongRecOn with
  | _ n ih=>
    rcases Nat.lt_or_ge n 10 with h|h
    · exact h1 n h
    · exact h2 n h (ih (n / 10) (by omega))
theorem dec_pos (n:Nat):1≤(dec n).length:=by
  refine dec_ind (fun n=>1≤(dec n).length) (fun n h=>?_) (fun n h ih=>?_) n
  · rw [dec_small h];simp
  · rw [dec_big h];simp
theorem dec_len (k:Nat):∀ n,n<10 ^ (k+1)→(dec n).length≤k+1:=by
  induction k with
  | zero=>intro n h;rw [dec_small (by simpa using h)];simp
  | succ k ih=>
    intro n h
    rcases Nat.lt_or_ge n 10 with h1|h1
    · rw [dec_small h1];simp
    · rw [dec_big h1]
      have:=ih (n / 10) (by rw [Nat.div_lt_iff_lt_mul (by omega)];rw [Nat.pow_succ] at h;exact h)
      simp;omega
def shw (w:Int):List UInt8:=if w<0 then 45::dec w.natAbs else dec w.natAbs
end LexS
/- The operators,their signs and levels: no program in sight. -/
namespace LexS
def sgnT:List (List UInt8×Int):=[([],0),([43],7),([45],7),([42],8),([47],8),([37],8),([38],3),([124],1),([94],2),([60,60],6),([62,62],6),([61,61],4),([33,61],4),([60],5),([60,61],5),([62],5),([62,61],5),([45],9),([33],9)]
def sgn (k:Nat):List UInt8:=(sgnT.getD k ([],0)).1
def lvl (k:Nat):Int:=(sgnT.getD k ([],0)).2
def knownOp (k:Int):Bool:=decide (0<k∧k<19)
def twoOp (k:Int):Bool:=decide (0<k∧k<17)
def lvlO (k:Int):Int:=if knownOp k=true then lvl k.toNat else 0
def oneOp (k:Int):Bool:=decide (k=17∨k=18)
def findO (s:List UInt8):Option Nat:=(List.range 19).find? fun k=>twoOp (k:Int) && decide (sgn k=s)
end LexS
/- What the parser computes,in plain words: no program in sight. -/
namespace ParS
open Sx LexS
abbrev Flt:=Nat×Nat
abbrev PR (α:Type):=Except Flt (α×List Tok)
def tok0:Tok:=⟨0,[],0,0⟩
def here (ts:List Tok):Tok:=match ts with|t::_=>t | []=>tok0
def atT (e:Nat) (ts:List Tok):Nat:=match ts with|t::_=>t.at_ | []=>e
def isT (s:List UInt8) (ts:List Tok):Bool:=decide ((here ts).text=s) && (decide ((here ts).kind=2) || decide ((here ts).kind=4))
def fail {α:Type} (e rule:Nat) (ts:List Tok):Except Flt α:=.error (atT e ts,rule)
def want (e:Nat) (s:List UInt8) (ts:List Tok):Except Flt (List Tok):=if isT s ts=true then .ok ts.tail else fail e 2 ts
def nameP (e:Nat) (ts:List Tok):PR Tok:=if (here ts).kind=1 then .ok (here ts,ts.tail) else fail e 2 ts
def declP (e:Nat) (ts:List Tok):PR Dc:=match nameP e ts with
  | .error f=>.error f
  | .ok (t,r)=>.ok (⟨t.text,0,(t.at_:Int)⟩,r)
def wordP (e:Nat) (minus:Bool) (ts:List Tok):PR Int:=if (here ts).kind=3 then .ok (if minus=true then -((here ts).word:Int) else ((here ts).word:Int),ts.tail) else fail e 2 ts
def initP (e:Nat) (ts:List Tok):PR Dc:=match nameP e ts with
  | .error f=>.error f
  | .ok (t,r)=>if isT [61] r=true then
      (match wordP e (isT [45] r.tail) (if isT [45] r.tail=true then r.tail.tail else r.tail) with
        | .error f=>.error f
        | .ok (x,r')=>.ok (⟨t.text,x,(t.at_:Int)⟩,r'))
    else .ok (⟨t.text,0,(t.at_:Int)⟩,r)
def listP (e:Nat) (one:List Tok→PR Dc):Nat→List Tok→PR (List Dc)
  | 0,ts=>.error (0,0)
  | n+1,ts=>match one ts with
    | .error f=>.error f
    | .ok (d,r)=>if isT [44] r=true then (match listP e one n r.tail with
        | .error f=>.error f
        | .ok (l,r')=>.ok (d::l,r'))
      else match want e [59] r with
        | .error f=>.error f
        | .ok r'=>.ok ([d],r')
def opT (t:Tok):Option Nat:=if t.kind=4 then findO t.text else none
def flatE (u:List Tok→PR Ex):Nat→List Tok→PR (List (Nat×Nat×Ex))
  | 0,ts=>.error (0,0)
  | n+1,ts=>match opT (here ts) with
    | none=>.ok ([],ts)
    | some op=>match u ts.tail with
      | .error f=>.error f
      | .ok (x,r)=>match flatE u n r with
        | .error f=>.error f
        | .ok (l,r')=>.ok ((op,(here ts).at_,x)::l,r')
def binE (op a:Nat) (x y:Ex):Ex:=.mk 4 (op:Int) 0 [] [x,y] (a:Int)
abbrev Pend:=Nat×Nat×Ex
def redu (all:Bool) (lv:Int):List Pend→Ex→List Pend×Ex
  | [],x=>([],x)
  | (op,a,l)::w,x=>if all=true∨lv≤lvlO (op:Int) then redu all lv w (binE op a l x) else ((op,a,l)::w,x)
def shunt:List Pend→List Pend→Ex→Ex
  | [],w,x=>(redu true 0 w x).2
  | (op,a,y)::r,w,x=>shunt r ((op,a,(redu false (lvlO (op:Int)) w x).2)::(redu false (lvlO (op:Int)) w x).1) y
def exprW (u:List Tok→PR Ex) (ts:List Tok):PR Ex:=match u ts with
  | .error f=>.error f
  | .ok (x,r)=>match flatE u (r.length+1) r with
    | .error f=>.error f
    | .ok (l,r')=>.ok (shunt l [] x,r')
def leafP (e:Nat) (ts:List Tok):PR Ex:=
  if (here ts).kind=3 then .ok (.mk 1 0 ((here ts).word:Int) [] [] ((here ts).at_:Int),ts.tail)
  else if (here ts).kind=1 then .ok (.mk 2 0 0 (here ts).text [] ((here ts).at_:Int),ts.tail)
  else fail e 2 ts
def innerT (ts:List Tok):Bool:=isT [45] ts || isT [33] ts || isT [40] ts
def unaryP (e:Nat):Nat→List Tok→PR Ex
  | 0,ts=>if innerT ts=true then fail e 3 ts else leafP e ts
  | m + 1, ts => if innerT ts = true then
      (if (here ts).text=[40] then (match exprW (unaryP e m) ts.tail with
        | .error f=>.error f
        | .ok (x,r)=>match want e [41] r with
          | .error f=>.error f
          | .ok r'=>.ok (x,r'))
      else match unaryP e m ts.tail with
        | .error f=>.error f
        | .ok (x,r)=>.ok (.mk 3 (if (here ts).text=[33] then 18 else 17) 0 [] [x] ((here ts).at_:Int),r))
    else leafP e ts
def exprP (e m:Nat) (ts:List Tok):PR Ex:=exprW (unaryP e m) ts
def condP (e:Nat) (ts:List Tok):PR Ex:=match want e [40] ts with
  | .error f=>.error f
  | .ok r=>match exprP e 64 r with
    | .error f=>.error f
    | .ok (x,r1)=>match want e [41] r1 with
      | .error f=>.error f
      | .ok r2=>.ok (x,r2)
def exprSemi (e:Nat) (ts:List Tok):PR Ex:=match exprP e 64 ts with
  | .error f=>.error f
  | .ok (x,r)=>match want e [59] r with
    | .error f=>.error f
    | .ok r'=>.ok (x,r')
def swapP (e:Nat) (ts:List Tok):PR (List UInt8×Ex):=match want e [40] ts with
  | .error f=>.error f
  | .ok r=>match nameP e r with
    | .error f=>.error f
    | .ok (t,r1)=>match want e [44] r1 with
      | .error f=>.error f
      | .ok r2=>match exprP e 64 r2 with
        | .error f=>.error f
        | .ok (x,r3)=>match want e [41] r3 with
          | .error f=>.error f
          | .ok r4=>match want e [59] r4 with
            | .error f=>.error f
            | .ok r5=>.ok ((t.text,x),r5)
def assignP (e:Nat) (a:Nat) (ts:List Tok):PR Sm:=match nameP e ts with
  | .error f=>.error f
  | .ok (t,r)=>match want e [61] r with
    | .error f=>.error f
    | .ok r1=>if isT wSwap r1=true then (match swapP e r1.tail with
        | .error f=>.error f
        | .ok ((o,x),r2)=>.ok (.mk 2 t.text o [x] [] [] (a:Int),r2))
      else match exprSemi e r1 with
        | .error f=>.error f
        | .ok (x,r2)=>.ok (.mk 1 t.text [] [x] [] [] (a:Int),r2)
def formT (t:Tok) (s:List UInt8):Bool:=decide (t.text=s) && decide (t.kind=2)
def stmtW (e:Nat) (blk:List Tok→PR (List Sm)) (ts:List Tok):PR Sm:=
  if formT (here ts) wIf=true then (match condP e ts.tail with
    | .error f=>.error f
    | .ok (x,r)=>match blk r with
      | .error f=>.error f
      | .ok (b,r1)=>if isT wElse r1=true then (match blk r1.tail with
          | .error f=>.error f
          | .ok (l,r2)=>.ok (.mk 3 [] [] [x] b l (atT e ts:Int),r2))
        else .ok (.mk 3 [] [] [x] b [] (atT e ts:Int),r1))
  else if formT (here ts) wWhile=true then (match condP e ts.tail with
    | .error f=>.error f
    | .ok (x,r)=>match blk r with
      | .error f=>.error f
      | .ok (b,r1)=>.ok (.mk 4 [] [] [x] b [] (atT e ts:Int),r1))
  else if formT (here ts) wLock=true then (match nameP e ts.tail with
    | .error f=>.error f
    | .ok (t,r)=>match blk r with
      | .error f=>.error f
      | .ok (b,r1)=>.ok (.mk 5 t.text [] [] b [] (atT e ts:Int),r1))
  else if formT (here ts) wPrint=true then (match exprSemi e ts.tail with
    | .error f=>.error f
    | .ok (x,r)=>.ok (.mk 6 [] [] [x] [] [] (atT e ts:Int),r))
  else if formT (here ts) wSkip=true then (match want e [59] ts.tail with
    | .error f=>.error f
    | .ok r=>.ok (.mk 7 [] [] [] [] [] (atT e ts:Int),r))
  else assignP e (atT e ts) ts
def restW (st:List Tok→PR Sm):Nat→List Tok→PR (List Sm)
  | 0,ts=>.error (0,0)
  | n+1,ts=>if isT [125] ts=true then .ok ([],ts.tail) else match st ts with
    | .error f=>.error f
    | .ok (s,r)=>match restW st n r with
      | .error f=>.error f
      | .ok (l,r')=>.ok (s::l,r')
def stmtP (e:Nat):Nat→List Tok→PR Sm
  | 0,ts=>stmtW e (fun r=>if isT [123] r=true then fail e 3 r else fail e 2 r) ts
  | m+1,ts=>stmtW e (fun r=>match want e [123] r with
    | .error f=>.error f
    | .ok r1=>restW (stmtP e m) (r1.length+1) r1) ts
def restP (e m:Nat) (ts:List Tok):PR (List Sm):=restW (stmtP e m) (ts.length+1) ts
def localsP (e:Nat):Nat→List Tok→PR (List Dc)
  | 0,ts=>.error (0,0)
  | n + 1, ts => if isT wLocal ts = true then (match listP e (declP e) (ts.length + 1) ts.tail with
      | .error f=>.error f
      | .ok (l,r)=>match localsP e n r with
        | .error f=>.error f
        | .ok (l',r')=>.ok (l++l',r'))
    else .ok ([],ts)
def threadP (e:Nat) (ts:List Tok):PR Th:=match nameP e ts with
  | .error f=>.error f
  | .ok (t,r)=>match want e [123] r with
    | .error f=>.error f
    | .ok r1=>match localsP e (r1.length+1) r1 with
      | .error f=>.error f
      | .ok (l,r2)=>match restP e 63 r2 with
        | .error f=>.error f
        | .ok (b,r3)=>.ok (⟨t.text,l,b,(t.at_:Int)⟩,r3)
def threadsP (e:Nat):Nat→List Tok→PR (List Th)
  | 0,ts=>.error (0,0)
  | n + 1, ts => if isT wThread ts = true then (match threadP e ts.tail with
      | .error f=>.error f
      | .ok (t,r)=>match threadsP e n r with
        | .error f=>.error f
        | .ok (l,r')=>.ok (t::l,r'))
    else .ok ([],ts)
def progP (e:Nat):Nat→List Tok→Except Flt Pg
  | 0,ts=>.error (0,0)
  | n + 1, ts => if isT wShared ts = true then (match listP e (initP e) (ts.length + 1) ts.tail with
      | .error f=>.error f
      | .ok (l,r)=>match progP e n r with
        | .error f=>.error f
        | .ok p=>.ok ⟨l++p.shared,p.locks,p.threads⟩)
    else if isT wLock ts=true then (match listP e (declP e) (ts.length+1) ts.tail with
      | .error f=>.error f
      | .ok (l,r)=>match progP e n r with
        | .error f=>.error f
        | .ok p=>.ok ⟨p.shared,l++p.locks,p.threads⟩)
    else match threadsP e (ts.length+1) ts with
      | .error f=>.error f
      | .ok (l,r)=>if r.length=0 then .ok ⟨[],[],l⟩ else fail e 2 r
def pg0:Pg:=⟨[],[],[]⟩
def parseRes (s:List UInt8):Pg×Nat×Nat×Nat:=
  if 65536<s.length then (pg0,4,0,0) else match (front s).2 with
    | some (rule,p)=>(pg0,30,p,1)
    | none=>match progP s.length ((front s).1.length+1) (front s).1 with
      | .error f=>(pg0,30,f.1,f.2)
      | .ok p=>(p,0,0,0)
end ParS
/- What the parser computes,more: wanted words one after another;rests are rests of the tokens. -/
namespace ParS
open Sx LexS
def wantL (e:Nat):List (List UInt8)→List Tok→Except Flt (List Tok)
  | [],ts=>.ok ts
  | s::l,ts=>match want e s ts with
    | .error f=>.error f
    | .ok r=>wantL e l r
theorem wantL_one (e:Nat) (s:List UInt8) (ts:List Tok):wantL e [s] ts=want e s ts:=by
  simp only [wantL];split <;> simp_all
theorem isT_ne {s:List UInt8} {r:List Tok} (h:isT s r=true):r≠[]:=by
  rintro rfl;simp [isT,here,tok0] at h
theorem kind_ne {k:Nat} {r:List Tok} (h:(here r).kind=k) (hk:k≠0):r≠[]:=by
  rintro rfl;exact hk h.symm
theorem inner_ne {r:List Tok} (h:innerT r=true):r≠[]:=by rintro rfl;simp [innerT,isT,here,tok0] at h
theorem tail_lt {r:List Tok} (h:r≠[]):r.tail.length<r.length:=by
  cases r with
  | nil=>exact absurd rfl h
  | cons x l=>simp
theorem want_ok {e:Nat} {s:List UInt8} {ts r:List Tok} (h:want e s ts=.ok r):isT s ts=true∧r=ts.tail:=by
  unfold want at h;split at h
  · rename_i hc;cases h;exact⟨hc,rfl⟩
  · cases h
theorem want_pos {e:Nat} {s:List UInt8} {ts:List Tok} (h:isT s ts=true):want e s ts=.ok ts.tail:=by unfold want;rw [if_pos h]
theorem want_neg {e:Nat} {s:List UInt8} {ts:List Tok} (h:isT s ts=false):want e s ts=.error (atT e ts,2):=by unfold want;rw [if_neg (by simp [h])];rfl
end ParS
/- A parser in memory: its tokens,its place;what its functions hand back,and how they fail. -/
namespace Sx
open Go Go.RowKit LexS ParS
abbrev tkL (t:Tok):List Value:=[.int .u8 (t.kind:Int),str t.text,.int .i64 (t.word:Int),.int .i64 (t.at_:Int)]
abbrev exC (e:Ex) (oa:Option Addr) (cap:Nat):List Value:=[.int .u8 e.k,.int .u8 e.op,.int .i64 e.wd,str e.nm,.slice oa e.kids.length cap,.int .i64 e.a]
abbrev smC (s:Sm) (oe ob ol:Option Addr) (ce cb cl:Nat):List Value:=[.int .u8 s.k,str s.nm,str s.other,.slice oe s.e.length ce,.slice ob s.body.length cb,.slice ol s.els.length cl,.int .i64 s.a]
abbrev thC (t:Th) (ol ob:Option Addr) (cl cb:Nat):List Value:=[str t.nm,.slice ol t.locals.length cl,.slice ob t.body.length cb,.int .i64 t.a]
abbrev pgC (p:Pg) (os ol ot:Option Addr) (cs cl ct:Nat):List Value:=[.slice os p.shared.length cs,.slice ol p.locks.length cl,.slice ot p.threads.length ct]
def SigAt (g:Nat) (w:World):Prop:=∀ k,k<19→w.cell? ⟨g,k*2,none⟩=some (str (sgn k))∧w.cell? ⟨g,k*2+1,none⟩=some (.int .i64 (lvl k))
theorem SigAt.kept {g:Nat} {M:List Nat} {w w':World} (h:SigAt g w) (c:Chg M w w') (hg:g∉M):SigAt g w':=fun k hk=>⟨c.cell (h k hk).1 hg,c.cell (h k hk).2 hg⟩
structure PCtx where
  pb:Nat
  n0:Nat
  oa:Option Addr
  cap:Nat
  ts:List Tok
  e:Nat
  T:Nat
  R:Nat
  g:Nat
abbrev pcell (c:PCtx) (r:List Tok):List Value:=[.slice c.oa c.ts.length c.cap,.int .i64 ((c.ts.length - r.length:Nat):Int),.int .i64 (c.e:Int)]
abbrev PAt (c:PCtx) (r:List Tok) (w:World):Prop:=w.heap[c.pb]?=some (.cells (pcell c r).toArray c.T (0,0))
abbrev refV (c:PCtx) (f:Flt):Value:=.iface c.R (.agg #[.int .i64 (f.1:Int),.int .i64 (f.2:Int)])
structure PCok (c:PCtx) (w:World):Prop where
  row:RowC w (·<c.n0) 4 c.oa c.ts.length (fun j=>tkL (c.ts.getD j tok0))
  n0:c.n0≤c.pb
  g:c.g<c.n0
  len:c.ts.length≤1048576
  el:c.e≤1048576
  sig:SigAt c.g w
  le:c.n0≤w.heap.size
  wd:∀ t∈c.ts,t.word≤9223372036854775807
theorem PCok.kept {c:PCtx} {M:List Nat} {w w':World} (h:PCok c w) (k:Chg M w w') (hM:∀ b∈M,c.n0≤b):PCok c w':=
  ⟨h.row.kept (.of_chg k fun b hb hm=>absurd (hM b hm) (Nat.not_le.2 hb)),h.n0,h.g,h.len,h.el,h.sig.kept k (fun hm=>absurd (hM _ hm) (Nat.not_le.2 h.g)),Nat.le_trans h.le k.size,h.wd⟩
theorem PCok.k1 {c:PCtx} {w w':World} (h:PCok c w) (k:Chg [c.pb] w w'):PCok c w':=h.kept k (by simpa using h.n0)
theorem PCok.k2 {c:PCtx} {b:Nat} {w w':World} (h:PCok c w) (k:Chg [c.pb,b] w w') (hb:c.n0≤b):PCok c w':=h.kept k (by simpa using ⟨h.n0,hb⟩)
theorem suf_get {ts r:List Tok} (h:r <:+ ts) (hr:r≠[]):ts.getD (ts.length - r.length) tok0=here r∧ts.length - r.length<ts.length:=by
  obtain⟨a,rfl⟩:=h
  cases r with
  | nil=>exact absurd rfl hr
  | cons x l=>
    have e:(a++x::l).length - (x::l).length=a.length:=by simp
    rw [e]
    exact⟨by simp [List.getD,here],by simp⟩
theorem suf_len {ts r:List Tok} (h:r <:+ ts):r.length≤ts.length:=h.length_le
theorem suf_tail {ts r:List Tok} (h:r <:+ ts):r.tail <:+ ts:=(List.tail_suffix r).trans h
theorem here_wd {ts r:List Tok} (h:∀ t∈ts,t.word≤9223372036854775807) (hr:r <:+ ts):(here r).word≤9223372036854775807:=by
  cases r with
  | nil=>exact Nat.zero_le _
  | cons x l=>exact h x (hr.subset (.head _))
theorem neg_i64 {n:Nat} (h:n≤9223372036854775807):IntKind.i64.wrap (0 - (n:Int))= -(n:Int):=by rw [IntWalk.i64_in _ ⟨by omega,by omega⟩];omega
theorem here_nil {r:List Tok} (h:r.length=0):here r=tok0:=by rw [List.eq_nil_of_length_eq_zero h];rfl
theorem atT_nil {e:Nat} {r:List Tok} (h:r.length=0):atT e r=e:=by rw [List.eq_nil_of_length_eq_zero h];rfl
theorem atT_cons {e:Nat} {r:List Tok} (h:r≠[]):atT e r=(here r).at_:=by cases r with|nil=>exact absurd rfl h|cons x l=>rfl
theorem PCok.tok {c:PCtx} {w:World} (h:PCok c w) {r:List Tok} (hs:r <:+ c.ts) (hr:r≠[]):∃ b off,c.oa=some ⟨b,off,none⟩∧∀ i v,(tkL (here r))[i]?=some v→w.cell? ⟨b,off+(c.ts.length - r.length)*4+i,none⟩=some v:=by
  obtain⟨h1,h2⟩:=suf_get hs hr
  rcases h.row with h0|⟨b,off,e,hb,hl,hc⟩
  · omega
  · refine⟨b,off,e,fun i v hi=>(hc _ h2).2 i v ?_⟩
    dsimp only;rw [h1];exact hi
def PRes {α:Type} (c:PCtx) (r:List Tok) (res:PR α) (M:List Nat) (w:World) (H:α→Value→World→Prop) (v:Value) (w':World):Prop:=
  ∃ x r',res=.ok (x,r')∧r' <:+ r∧r'.length<r.length∧PAt c r' w'∧Chg M w w'∧H x v w'
def PErr {α:Type} (c:PCtx) (res:Except Flt α) (M:List Nat) (w:World) (v:Value) (w':World):Prop:=
  ∃ f,res=.error f∧v=refV c f∧Chg M w w'
section
variable {w w' w0:World} {M:List Nat} {hs:List Res}
theorem St.prs {b:Nat} {o o':Obj} (st:St w0 M hs w) (i:Nat) (hi:nth hs i=some (.blk b o)) (ch:Chg [b] w w') (hm:b∈M∨w0.heap.size≤b) (h':w'.heap[b]?=some o'):St w0 M (setNth hs i (.blk b o')) w':=
  st.turn hi rfl rfl ch hm h'
theorem St.prsT {b:Nat} {o o':Obj} {q:Res} (st:St w0 M hs w) (i:Nat) (hi:nth hs i=some (.blk b o)) (ch:Chg [b] w w') (hm:b∈M∨w0.heap.size≤b) (h':w'.heap[b]?=some o')
    (hq:q.holds w0.heap.size w') (hqa:∀ k∈q.at?,w.heap.size≤k):St w0 M (q::setNth hs i (.blk b o')) w':=
  st.swapPush hi ch (by simp [Res.at?]) (by simpa using hm) (by simp [Res.at?]) h' hq hqa
theorem St.bne {b b':Nat} {o o':Obj} (st:St w0 M hs w) (i j:Nat) (hij:i≠j) (hi:nth hs i=some (.blk b o)) (hj:nth hs j=some (.blk b' o')):b≠b':=fun e=>apart_nth st.nodup hij hi hj b (.head _) (by rw [e];exact .head _)
theorem holds_ex {tE base:Nat} {oa:Option Addr} {cap:Nat} {es:List Ex} {S:List Nat} (h:ExR tE w oa cap es S):(Res.tree S fun w=>ExR tE w oa cap es S).holds base w:=holds_of h h.lt (fun a b h hk=>h.kept hk)
theorem holds_sm {tE tS base:Nat} {oa:Option Addr} {cap:Nat} {es:List Sm} {S:List Nat} (h:SmR tE tS w oa cap es S):(Res.tree S fun w=>SmR tE tS w oa cap es S).holds base w:=holds_of h h.lt (fun a b h hk=>h.kept hk)
theorem holds_dc {tD base:Nat} {oa:Option Addr} {cap:Nat} {es:List Dc} {S:List Nat} (h:DcR tD w oa cap es S):(Res.tree S fun w=>DcR tD w oa cap es S).holds base w:=holds_of h h.lt (fun a b h hk=>h.kept hk)
end
end Sx
