/- A part of the proof: contracts of functions and plain laws; each theorem says its own conditions. -/
import Derived.Test.YtkhpdpenlnhbiaaGreatDoorTopLoweredK7
import Derived.Test.YtkhpdpenlnhbiaaGreatDoorTopLoweredK14
import Derived.Test.YtkhpdpenlnhbiaaGreatDoorTopLoweredTryzShelfP
set_option linter.unusedVariables false
set_option linter.unusedSimpArgs false
namespace Go.Proofs.YtkhpdpenlnhbiaaGreatDoor
open Go.RowKit Sx LexS _root_.Go.Proofs.Tryz
abbrev scn (s:List UInt8) (i:Int) (fa fr:Int):Obj:=.cells [str s,.int .i64 i,.int .i64 fa,.int .i64 fr].toArray 113 (0,0)
theorem idxByte_any (l:List UInt8) (w:World):Ret Tryz.prog 121 [str l,.int .u8 10] w fun v w'=>v=.int .i64 (Lib.indexByte l 10)∧w'=w:=
 (Tryz.strings_IndexByte ⟨l.toArray⟩ 10 w).mono fun e w' ⟨he,hw⟩=>⟨_,he,rfl,hw⟩
theorem hasPrefix_eq (l:List UInt8):Lib.hasPrefix l [47,47]=isRem l:=by
 match l with
 | []=>rfl
 | [a]=>simp [Lib.hasPrefix,isRem,List.isPrefixOf]
 | a::b::r=>
  have h:Lib.hasPrefix (a::b::r) [47,47]=((47 == a) && (47 == b)):=by simp [Lib.hasPrefix,List.isPrefixOf]
  rw [h,isRem]
  apply Bool.eq_iff_iff.2
  simp only [Bool.and_eq_true,beq_iff_eq,decide_eq_true_eq]
  exact⟨fun ⟨h1,h2⟩=>⟨h1.symm,h2.symm⟩,fun ⟨h1,h2⟩=>⟨h1.symm,h2.symm⟩⟩
theorem hasRem_any (l:List UInt8) (w:World):Ret Tryz.prog 120 [str l,str [47,47]] w fun v w'=>v=.bool (isRem l)∧w'=w:=
 (Tryz.strings_HasPrefix ⟨l.toArray⟩ ⟨[47,47].toArray⟩ w).mono fun e w' ⟨he,hw⟩=>⟨_,he,by rw [← hasPrefix_eq],hw⟩
theorem drop_cons {s:List UInt8} {j:Nat} (h:j<s.length):s.drop j=s.getD j 0::s.drop (j+1):=by
 rw [List.drop_eq_getElem_cons h];simp [List.getD,h]
theorem over_any (b:Nat) (s:List UInt8) (i:Nat) (fa fr:Int) (w:World) (hb:w.heap[b]?=some (scn s i fa fr)) (hi:i≤s.length) (hs:s.length≤3000000) :
    Ret Tryz.prog 95 [.pointer (some ⟨b,0,none⟩)] w fun v w'=>v=.tuple #[]∧Chg [b] w w'∧w'.heap[b]?=some (scn s ((i+skip (s.drop i):Nat):Int) fa fr):=by
 refine ret_of [_] Tryz.func95 rfl Tryz.ntmps95 rfl ?_;have st:=St.init w [b];replace st:=St.of1 [b] hb;refine a1 ?_;refine vc_loop (w0:=_) (M:=_) (fun _=>[(0,.pointer (some ⟨b,0,none⟩))]) (fun (j:Nat)=>[.blk b (scn s j fa fr)]) (fun j _=>j≤s.length∧j+skip (s.drop j)=i+skip (s.drop i)) (fun j=>s.length - j) i ⟨rfl,trivial⟩ st ⟨hi,rfl⟩ ?_;rintro j w ⟨hj,he⟩ st;refine a2 ?_;refine vdr0 Tryz.mixed [Yt 0,Yt 1,Yt 2,Yt 3,Yt 4,Yt 5,Yt 6,Yt 7,Yt 8,Yt 9] st ?_;clear st;intro w st hS;refine pm hS ?_;refine pnk hS ?_;refine pfz hS 1 Tryz.underlying113 Tryz.sizeOf3 ?_;refine pld hS 0 Tryz.isAgg3 ?_;refine pm hS ?_;refine pnk hS ?_;refine pf0 hS Tryz.underlying113 Tryz.sizeOf9 ?_;refine pld hS 0 Tryz.isAgg9 ?_;refine vp_take rfl rfl rfl hS (fun w st=>y_lens rfl Tryz.underlying9) ?_;refine vp_take rfl rfl rfl hS (fun w st=>y_lss rfl rfl) ?_;refine vp_end (vq_then ?_);refine vif ?_ ?_
 ·intro hc12;(try simp only [dn] at hc12);have hd:=drop_cons (s:=s) (j:=j) (by omega);refine a5 ?_;refine vdr0 Tryz.mixed [Yt 0,Yt 1,Yt 2,Yt 3,Yt 4,Yt 5,Yt 6,Yt 7,Yt 8,Nt 9,Yt 10] st ?_;clear st;intro w st hS;refine pm hS ?_;refine pnk hS ?_;refine pf0 hS Tryz.underlying113 Tryz.sizeOf9 ?_;refine pld hS 0 Tryz.isAgg9 ?_;refine pm hS ?_;refine pnk hS ?_;refine pfz hS 1 Tryz.underlying113 Tryz.sizeOf3 ?_;refine pld hS 0 Tryz.isAgg3 ?_;refine vp_take rfl rfl rfl hS (fun w st=>y_ixs (k:=_) rfl rfl Tryz.underlying9 rfl (by omega)) ?_;refine vp_do rfl (e_call [_] rfl rfl Tryz.call119 rfl (blank_any _ _) ?_);rintro _ _ ⟨rfl,rfl⟩;refine vp_next (by exact st) ?_;intro hS;refine vp_take rfl rfl rfl hS (fun w st=>y_as rfl) ?_;refine vp_end (vq_then ?_);refine vif ?_ ?_;intro hc13;(try simp only [dn] at hc13);refine a3 ?_;refine yfz 1 Tryz.underlying113 Tryz.sizeOf3 ?_;refine yl st 0 Tryz.isAgg3 ?_;refine vy (y_add rfl rfl rfl (by omega) (by omega)) ?_;refine a1 ?_;refine yfz 1 Tryz.underlying113 Tryz.sizeOf3 ?_
  first
  | refine vc_e (est st 0 Tryz.sizeOf3 ?_)
  intro w st;dsimp only [setNth,wr] at st;refine a3 ?_;refine vq_again (j+1)  ⟨rfl,trivial⟩ st ?_ ?_;exact⟨by omega,by rw [hd,skip_blank hc13] at he;omega⟩;omega;intro hc13;(try simp only [dn] at hc13);refine a1 ?_;refine vdr0 Tryz.mixed [Yt 0,Yt 1,Yt 2,Yt 3,Yt 4,Yt 5,Yt 6,Yt 7,Yt 8,Nt 9,Yt 10] st ?_;clear st;intro w st hS;refine pm hS ?_;refine pnk hS ?_;refine pf0 hS Tryz.underlying113 Tryz.sizeOf9 ?_;refine pld hS 0 Tryz.isAgg9 ?_;refine pm hS ?_;refine pnk hS ?_;refine pfz hS 1 Tryz.underlying113 Tryz.sizeOf3 ?_;refine pld hS 0 Tryz.isAgg3 ?_;refine vp_take rfl rfl rfl hS (fun w st=>y_slf (i:=_) rfl rfl Tryz.underlying9 rfl (by omega)) ?_;refine vp_do rfl (e_call [_,_] rfl rfl Tryz.call120 rfl (hasRem_any _ _) ?_);rintro _ _ ⟨rfl,rfl⟩;refine vp_next (by exact st) ?_;intro hS;refine vp_take rfl rfl rfl hS (fun w st=>y_as rfl) ?_;refine vp_end (vq_then ?_);refine vif ?_ ?_
  ·intro hc31;(try simp only [dn] at hc31);refine a1 ?_;refine vdr0 Tryz.mixed [Yt 0,Yt 1,Yt 2,Yt 3,Yt 4,Yt 5,Yt 6,Yt 7,Yt 8,Nt 9,Yt 10] st ?_;clear st;intro w st hS;refine pm hS ?_;refine pnk hS ?_;refine pf0 hS Tryz.underlying113 Tryz.sizeOf9 ?_;refine pld hS 0 Tryz.isAgg9 ?_;refine pm hS ?_;refine pnk hS ?_;refine pfz hS 1 Tryz.underlying113 Tryz.sizeOf3 ?_;refine pld hS 0 Tryz.isAgg3 ?_;refine vp_take rfl rfl rfl hS (fun w st=>y_slf (i:=_) rfl rfl Tryz.underlying9 rfl (by omega)) ?_;refine vp_do rfl (e_call [_,_] rfl rfl Tryz.call121 rfl (idxByte_any _ _) ?_);rintro _ _ ⟨rfl,rfl⟩;have hle:=toLf_le (s.drop j);simp only [List.length_drop] at hle;have hn:=indexByte_lf (s.drop j);simp only [List.length_drop] at hn;refine vp_next (by exact st) ?_;intro hS;refine vp_take rfl rfl rfl hS (fun w st=>y_as rfl) ?_;refine vp_end (vq_then (vc_seq (sr ?_)));refine a4 ?_;refine vif ?_ ?_;intro hc53;(try simp only [dn] at hc53);refine vdr0 Tryz.mixed [Yt 0,Yt 1,Yt 2,Yt 3,Yt 4,Yt 5,Yt 6,Yt 7,Yt 8,Yt 9,Yt 10] st ?_;clear st;intro w st hS;refine pm hS ?_;refine pnk hS ?_;refine pf0 hS Tryz.underlying113 Tryz.sizeOf9 ?_;refine pld hS 0 Tryz.isAgg9 ?_;refine vp_take rfl rfl rfl hS (fun w st=>y_lens rfl Tryz.underlying9) ?_;refine pm hS ?_;refine pnk hS ?_;refine pfz hS 1 Tryz.underlying113 Tryz.sizeOf3 ?_;refine pld hS 0 Tryz.isAgg3 ?_;refine vp_take rfl rfl rfl hS (fun w st=>y_sub rfl rfl rfl (by omega) (by omega)) ?_;refine vp_take rfl rfl rfl hS (fun w st=>y_as rfl) ?_;refine vp_end ?_
   rotate_left
   intro hc53;(try simp only [dn] at hc53);refine a1 ?_
   all_goals
    refine a4 ?_;refine yfz 1 Tryz.underlying113 Tryz.sizeOf3 ?_;refine yl st 0 Tryz.isAgg3 ?_;refine a1 ?_;refine vy (yin ((j+toLf (List.drop j s):Nat):Int)) ?_;refine a1 ?_;refine yfz 1 Tryz.underlying113 Tryz.sizeOf3 ?_
    first
    | refine vc_e (est st 0 Tryz.sizeOf3 ?_)
    intro w st;dsimp only [setNth,wr] at st;refine a3 ?_;refine vq_again (j+toLf (List.drop j s))  ⟨rfl,trivial⟩ st ?_ ?_;exact⟨by omega,by rw [skip_rem hc31,List.drop_drop] at he;omega⟩;have:=toLf_pos hc31;omega
  intro hc31;(try simp only [dn] at hc31);refine a5 ?_;refine vq_ret0 (.inl rfl) Tryz.results95 ?_;refine⟨_,rfl,?_⟩;exact⟨rfl,st.chg,by have h:=st.res (i:=0) rfl;rw [hd] at hc31;rw [hd,skip_other hc13 hc31] at he;rw [show i+skip (List.drop i s)=j by omega];exact h⟩
 intro hc12;(try simp only [dn] at hc12);obtain rfl:j=s.length:=by omega
 simp only [List.drop_length,skip_nil] at he;refine a4 ?_;refine vq_ret0 (.inr rfl) Tryz.results95 ?_;refine⟨_,rfl,?_⟩;exact⟨rfl,st.chg,by have h:=st.res (i:=0) rfl;rw [show i+skip (List.drop i s)=s.length by omega];exact h⟩
end Go.Proofs.YtkhpdpenlnhbiaaGreatDoor
namespace Go.Proofs.YtkhpdpenlnhbiaaGreatDoor
open Go.RowKit Sx LexS _root_.Go.Proofs.Tryz
abbrev tokL (t:Tok):List Value:=[.int .u8 (t.kind:Int),str t.text,.int .i64 (t.word:Int),.int .i64 (t.at_:Int)]
abbrev zeroL:List Value:=[.int .u8 0,str [],.int .i64 0,.int .i64 0]
def RdPost (b:Nat) (s:List UInt8) (i:Nat) (fa fr:Int) (res:TokR) (v:Value) (w':World):Prop:=match res with
 | .tok t=>v=.agg (tokL t).toArray∧w'.heap[b]?=some (scn s ((i+t.text.length:Nat):Int) fa fr)
 | .bad rule p=>v=.agg zeroL.toArray∧∃ j:Int,w'.heap[b]?=some (scn s j (p:Int) (rule:Int))
theorem tokAt_word {s:List UInt8} {i:Nat} (h:i<s.length) (hc:isLetter (s.getD i 0)=true):tokAt (s.drop i) i=
    if isWord ((s.drop i).takeWhile isIdent) then .tok ⟨2,(s.drop i).takeWhile isIdent,0,i⟩ else if 32<((s.drop i).takeWhile isIdent).length then .bad 2 (i+32) else .tok ⟨1,(s.drop i).takeWhile isIdent,0,i⟩:=by
 rw [drop_cons h];simp only [tokAt,hc,if_true]
theorem tw_step {p:UInt8→Bool} {s:List UInt8} {i j:Nat} (hij:i≤j) (hj:j<s.length) (hp:p (s.getD j 0)=true)
    (h:(s.drop i).takeWhile p=(s.drop i).take (j - i)++(s.drop j).takeWhile p):(s.drop i).takeWhile p=(s.drop i).take (j+1 - i)++(s.drop (j+1)).takeWhile p:=by
 rw [h,drop_cons hj,List.takeWhile_cons,if_pos hp,show j+1 - i=(j - i)+1 from by omega,List.take_succ_eq_append_getElem (by simp;omega)];simp [List.getD,hj,show i+(j - i)=j from by omega]
theorem tw_end {p:UInt8→Bool} {s:List UInt8} {i j:Nat} (hp:j<s.length→p (s.getD j 0)=false)
    (h:(s.drop i).takeWhile p=(s.drop i).take (j - i)++(s.drop j).takeWhile p):(s.drop i).takeWhile p=(s.drop i).take (j - i):=by
 by_cases hj:j<s.length
 rw [h,drop_cons hj,List.takeWhile_cons,hp hj];simp;have e:s.drop j=[]:=List.drop_eq_nil_of_le (by omega);rw [h,e];simp
theorem isIdent_of (c:UInt8) (h:isLetter c=true∨isDigit c=true):isIdent c=true:=by unfold isIdent;rcases h with h|h <;> simp [h]
theorem isIdent_no (c:UInt8) (h:isLetter c=false) (h':isDigit c=false):isIdent c=false:=by unfold isIdent;simp [h,h']
theorem wrong_any (b:Nat) (s:List UInt8) (i fa fr at_ rule:Int) (w:World) (hb:w.heap[b]?=some (scn s i fa fr)) :
    Ret Tryz.prog 123 [.pointer (some ⟨b,0,none⟩),.int .i64 at_,.int .i64 rule] w fun v w'=>v=.agg zeroL.toArray∧Chg [b] w w'∧w'.heap[b]?=some (scn s i at_ rule):=by
 refine ret_of [_,_,_] Tryz.func123 rfl Tryz.ntmps123 rfl ?_;have st:=St.init w [b];replace st:=St.of1 [b] hb;refine a2 ?_;refine vc_e (e_al (l:=[_,_,_,_]) st rfl rfl Tryz.zeroValue64 rfl ?_);intro b6 w hb6 st;refine a7 ?_;refine vy (ybd (.agg #[_,_]) [(0,_),(1,_)]) ?_;refine a1 ?_;refine yfz 2 Tryz.underlying113 Tryz.sizeOf29 ?_;refine vc_e (ests st 1 [_,_] Tryz.sizeOf29 ?_);intro w st;refine a4 ?_;refine vy (ybd (.agg #[_,_,_,_]) []) ?_;refine vc_e (ests st 0 [_,_,_,_] Tryz.sizeOf64 ?_);intro w st;refine a3 ?_;refine vq_ret1 st (.inl rfl) Tryz.results123 (by exact .cell 0 rfl rfl Tryz.isAgg64 Tryz.sizeOf64) ?_;refine⟨_,rfl,?_⟩;exact⟨rfl,st.chg,st.res (i:=1) rfl⟩
theorem word_rd (b:Nat) (s:List UInt8) (i:Nat) (fa fr:Int) (w:World) (hb:w.heap[b]?=some (scn s i fa fr)) (hi:i<s.length) (hs:s.length≤3000000) (hc:isLetter (s.getD i 0)=true) :
    Ret Tryz.prog 97 [.pointer (some ⟨b,0,none⟩)] w fun v w'=>Chg [b] w w'∧RdPost b s i fa fr (tokAt (s.drop i) i) v w':=by
 refine ret_of [_] Tryz.func97 rfl Tryz.ntmps97 rfl ?_;have st:=St.init w [b];replace st:=St.of1 [b] hb;refine a2 ?_;refine vc_e (e_al (l:=[_,_,_,_]) st rfl rfl Tryz.zeroValue64 rfl ?_);intro b2 w hb2 st;refine a6 ?_;refine yfz 1 Tryz.underlying113 Tryz.sizeOf3 ?_;refine yl st 1 Tryz.isAgg3 ?_;refine a5 ?_;refine vc_loop (w0:=_) (M:=_) (fun _=>[(0,.pointer (some ⟨b,0,none⟩)),(2,.pointer (some ⟨b2,0,none⟩)),(3,.int .i64 (i:Int))]) (fun (j:Nat)=>[.blk b2 (.cells zeroL.toArray 64 (0,0)),.blk b (scn s j fa fr)]) (fun j _=>i≤j∧j≤s.length∧(s.drop i).takeWhile isIdent=(s.drop i).take (j - i)++(s.drop j).takeWhile isIdent) (fun j=>s.length - j) i ⟨rfl,rfl,rfl,trivial⟩ st ⟨by omega,by omega,by simp⟩ ?_;rintro j w ⟨hij,hj,he⟩ st;refine a2 ?_;refine vdr0 Tryz.mixed [Yt 0,Yt 1,Yt 2,Yt 3,Yt 4,Yt 5,Yt 6,Yt 7,Yt 8,Yt 9,Yt 10,Yt 11,Yt 12,Yt 13,Yt 14,Yt 15,Yt 16,Yt 17,Yt 18,Yt 19,Nt 20,Yt 21,Yt 22,Yt 23,Yt 24,Yt 25,Yt 26,Yt 27,Yt 28,Yt 29,Yt 30,Nt 31,Yt 32,Yt 33] st ?_;clear st;intro w st hS;refine pm hS ?_;refine pnk hS ?_;refine pfz hS 1 Tryz.underlying113 Tryz.sizeOf3 ?_;refine pld hS 1 Tryz.isAgg3 ?_;refine pm hS ?_;refine pnk hS ?_;refine pf0 hS Tryz.underlying113 Tryz.sizeOf9 ?_;refine pld hS 1 Tryz.isAgg9 ?_;refine vp_take rfl rfl rfl hS (fun w st=>y_lens rfl Tryz.underlying9) ?_;refine vp_take rfl rfl rfl hS (fun w st=>y_lss rfl rfl) ?_;refine vp_part rfl rfl rfl hS rfl ?_ ?_
 ·intro hg19;(try simp only [dn] at hg19);refine pm hS ?_;refine pnk hS ?_;refine pf0 hS Tryz.underlying113 Tryz.sizeOf9 ?_;refine pld hS 1 Tryz.isAgg9 ?_;refine pm hS ?_;refine pnk hS ?_;refine pfz hS 1 Tryz.underlying113 Tryz.sizeOf3 ?_;refine pld hS 1 Tryz.isAgg3 ?_;refine vp_take rfl rfl rfl hS (fun w st=>y_ixs (k:=_) rfl rfl Tryz.underlying9 rfl (by omega)) ?_;refine vp_do rfl (e_call [_] rfl rfl Tryz.call68 rfl (letter_any _ _) ?_);rintro _ _ ⟨rfl,rfl⟩;refine vp_next (by exact st) ?_;intro hS;refine vp_part rfl rfl rfl hS rfl ?_ ?_;intro hg30;(try simp only [dn] at hg30);(iterate 9 refine vp_skip rfl rfl rfl hS ?_);refine vp_do rfl (e_skip rfl rfl (vp_next hS (fun hS=>?_)));(iterate 2 refine vp_take rfl rfl rfl hS (fun w st=>y_pickt rfl rfl) ?_);refine vp_end (vq_then ?_);refine a7 ?_;refine yfz 1 Tryz.underlying113 Tryz.sizeOf3 ?_;refine yl st 1 Tryz.isAgg3 ?_;refine vy (y_add rfl rfl rfl (by omega) (by omega)) ?_;refine a1 ?_;refine yfz 1 Tryz.underlying113 Tryz.sizeOf3 ?_;refine vc_e (est st 1 Tryz.sizeOf3 ?_);intro w st;dsimp only [setNth,wr] at st;refine a2 ?_;refine vq_again (j+1)  ⟨rfl,rfl,rfl,trivial⟩ st ?_ ?_;exact⟨by omega,by omega,tw_step hij (by omega) (isIdent_of _ (by(left;assumption))) he⟩;omega;intro hg30;(try simp only [dn] at hg30);refine pm hS ?_;refine pnk hS ?_;refine pf0 hS Tryz.underlying113 Tryz.sizeOf9 ?_;refine pld hS 1 Tryz.isAgg9 ?_;refine pm hS ?_;refine pnk hS ?_;refine pfz hS 1 Tryz.underlying113 Tryz.sizeOf3 ?_;refine pld hS 1 Tryz.isAgg3 ?_;refine vp_take rfl rfl rfl hS (fun w st=>y_ixs (k:=_) rfl rfl Tryz.underlying9 rfl (by omega)) ?_;refine vp_do rfl (e_call [_] rfl rfl Tryz.call66 rfl (digit_any _ _) ?_);rintro _ _ ⟨rfl,rfl⟩;refine vp_next (by exact st) ?_;intro hS;refine vp_take rfl rfl rfl hS (fun w st=>y_pickf rfl rfl) ?_;refine vp_take rfl rfl rfl hS (fun w st=>y_pickt rfl rfl) ?_;refine vp_end (vq_then ?_);refine vif ?_ ?_;intro hc42;(try simp only [dn] at hc42);refine a6 ?_;refine yfz 1 Tryz.underlying113 Tryz.sizeOf3 ?_;refine yl st 1 Tryz.isAgg3 ?_;refine vy (y_add rfl rfl rfl (by omega) (by omega)) ?_;refine a1 ?_;refine yfz 1 Tryz.underlying113 Tryz.sizeOf3 ?_;refine vc_e (est st 1 Tryz.sizeOf3 ?_);intro w st;dsimp only [setNth,wr] at st;refine a2 ?_;refine vq_again (j+1)  ⟨rfl,rfl,rfl,trivial⟩ st ?_ ?_;exact⟨by omega,by omega,tw_step hij (by omega) (isIdent_of _ (by(right;assumption))) he⟩;omega;intro hc42;(try simp only [dn] at hc42);have hT:=tw_end (fun _=>isIdent_no _ (by assumption) (by assumption)) he;refine a6 ?_;refine vdr Tryz.mixed [Yt 0,Yt 1,Yt 2,Yt 3,Yt 4,Yt 5,Yt 6,Yt 7,Yt 8,Yt 9,Yt 10,Yt 11,Nt 12,Nt 13] [.blk b (scn s j fa fr)] st ?_;clear st;intro w st hS;refine pm hS ?_;refine pnk hS ?_;refine pf0 hS Tryz.underlying113 Tryz.sizeOf9 ?_;refine pld hS 0 Tryz.isAgg9 ?_;(iterate 2 refine pm hS ?_);refine pnk hS ?_;refine pfz hS 1 Tryz.underlying113 Tryz.sizeOf3 ?_;refine pld hS 0 Tryz.isAgg3 ?_;refine vp_take rfl rfl rfl hS (fun w st=>y_sls (i:=_) (j:=_) rfl rfl rfl Tryz.underlying9 rfl rfl (by omega) (by omega)) ?_;refine pm hS ?_
  refine vp_take rfl rfl rfl hS (fun w st=>ybd (.agg #[_,_,_,_]) [(0,_),(1,_),(3,_)]) ?_;refine vp_do rfl (e_al (l:=[_,_,_,_]) st rfl rfl Tryz.zeroValue64 rfl ?_);intro b4 w hb4 st;refine vp_next st.dr ?_;intro hS;refine vp_do rfl (ests st 0 [_,_,_,_] Tryz.sizeOf64 ?_);intro w st;dsimp only [setNth,wr] at st;refine vp_next st.dr ?_;intro hS;refine vp_end (vq_then (vc_seq (sr ?_)));refine yfz 1 Tryz.underlying64 Tryz.sizeOf9 ?_;refine yl st 0 Tryz.isAgg9 ?_;refine vc_e (e_call [_] rfl rfl Tryz.call67 rfl (word_any _ _) ?_);rintro _ _ ⟨rfl,rfl⟩;refine a2 ?_;refine vif ?_ ?_;intro hc64;(try simp only [dn] at hc64);refine a1 ?_;refine vy (y_fa0 rfl Tryz.underlying64 rfl rfl Tryz.sizeOf62 rfl) ?_;refine vc_e (est st 0 Tryz.sizeOf62 ?_);intro w st;dsimp only [setNth,wr] at st;refine a4 ?_;refine yla st 0 [_,_,_,_] Tryz.isAgg64 Tryz.sizeOf64 ?_;refine vc_e (ests st 1 [_,_,_,_] Tryz.sizeOf64 ?_);intro w st;dsimp only [setNth,wr] at st;refine a3 ?_
  rotate_left
  focus
   intro hc64;(try simp only [dn] at hc64);refine a2 ?_;refine yfz 1 Tryz.underlying64 Tryz.sizeOf9 ?_;refine yl st 0 Tryz.isAgg9 ?_;refine vy (y_lens rfl Tryz.underlying9) ?_;refine a3 ?_;refine vif ?_ ?_;intro hc69;(try simp only [dn] at hc69);refine a4 ?_;refine vy (y_add rfl rfl rfl (by omega) (by omega)) ?_;refine vc_e (e_call [_,_,_] rfl rfl Tryz.call123 rfl (wrong_any b s _ _ _ _ _ _ (st.res (i:=2) rfl)) ?_);rintro _ w ⟨rfl,cw,hw⟩;replace st:=st.turn (i:=2) (r':=.blk b _) rfl rfl rfl cw (.inl (by simp)) hw;dsimp only [setNth] at st;refine vc_e (ests st 1 [_,_,_,_] Tryz.sizeOf64 ?_);intro w st;dsimp only [setNth,wr] at st;refine a4 ?_
   rotate_left
   intro hc69;(try simp only [dn] at hc69);refine a4 ?_;refine yla st 0 [_,_,_,_] Tryz.isAgg64 Tryz.sizeOf64 ?_;refine vc_e (ests st 1 [_,_,_,_] Tryz.sizeOf64 ?_);intro w st;dsimp only [setNth,wr] at st;refine a3 ?_
  all_goals
   refine vq_ret1 st (.inl rfl) Tryz.results97 (by exact .cell 1 rfl rfl Tryz.isAgg64 Tryz.sizeOf64) ?_;refine⟨_,rfl,?_⟩;have hlen:(List.take (j - i) (List.drop i s)).length=j - i:=by simp;omega
   refine⟨st.chg,?_⟩;rw [tokAt_word hi hc,hT]
   first
   | (rw [if_pos hc64];exact⟨rfl,by dsimp only;rw [hlen,show i+(j - i)=j from by omega];exact st.res (i:=2) rfl⟩)
   | (rw [if_neg (by rw [hc64];simp),if_pos (by omega)];exact⟨rfl,_,st.res (i:=2) rfl⟩)
   | (rw [if_neg (by rw [hc64];simp),if_neg (by omega)];exact⟨rfl,by dsimp only;rw [hlen,show i+(j - i)=j from by omega];exact st.res (i:=2) rfl⟩)
 intro hg19;(try simp only [dn] at hg19);have hT:=tw_end (fun h=>absurd h (by omega)) he;(iterate 9 refine vp_skip rfl rfl rfl hS ?_);refine vp_do rfl (e_skip rfl rfl (vp_next hS (fun hS=>?_)));(iterate 10 refine vp_skip rfl rfl rfl hS ?_);refine vp_do rfl (e_skip rfl rfl (vp_next hS (fun hS=>?_)));refine vp_skip rfl rfl rfl hS ?_;refine vp_take rfl rfl rfl hS (fun w st=>y_pickf rfl rfl) ?_;refine vp_end (vq_then ?_);refine a7 ?_;refine vdr Tryz.mixed [Yt 0,Yt 1,Yt 2,Yt 3,Yt 4,Yt 5,Yt 6,Yt 7,Yt 8,Yt 9,Yt 10,Yt 11,Nt 12,Nt 13] [.blk b (scn s j fa fr)] st ?_;clear st;intro w st hS;refine pm hS ?_;refine pnk hS ?_;refine pf0 hS Tryz.underlying113 Tryz.sizeOf9 ?_;refine pld hS 0 Tryz.isAgg9 ?_;(iterate 2 refine pm hS ?_);refine pnk hS ?_;refine pfz hS 1 Tryz.underlying113 Tryz.sizeOf3 ?_;refine pld hS 0 Tryz.isAgg3 ?_;refine vp_take rfl rfl rfl hS (fun w st=>y_sls (i:=_) (j:=_) rfl rfl rfl Tryz.underlying9 rfl rfl (by omega) (by omega)) ?_;refine pm hS ?_;refine vp_take rfl rfl rfl hS (fun w st=>ybd (.agg #[_,_,_,_]) [(0,_),(1,_),(3,_)]) ?_;refine vp_do rfl (e_al (l:=[_,_,_,_]) st rfl rfl Tryz.zeroValue64 rfl ?_);intro b4 w hb4 st;refine vp_next st.dr ?_;intro hS;refine vp_do rfl (ests st 0 [_,_,_,_] Tryz.sizeOf64 ?_);intro w st;dsimp only [setNth,wr] at st;refine vp_next st.dr ?_;intro hS;refine vp_end (vq_then (vc_seq (sr ?_)));refine yfz 1 Tryz.underlying64 Tryz.sizeOf9 ?_;refine yl st 0 Tryz.isAgg9 ?_;refine vc_e (e_call [_] rfl rfl Tryz.call67 rfl (word_any _ _) ?_);rintro _ _ ⟨rfl,rfl⟩;refine a2 ?_;refine vif ?_ ?_;intro hc64;(try simp only [dn] at hc64);refine a1 ?_;refine vy (y_fa0 rfl Tryz.underlying64 rfl rfl Tryz.sizeOf62 rfl) ?_;refine vc_e (est st 0 Tryz.sizeOf62 ?_);intro w st;dsimp only [setNth,wr] at st;refine a4 ?_;refine yla st 0 [_,_,_,_] Tryz.isAgg64 Tryz.sizeOf64 ?_;refine vc_e (ests st 1 [_,_,_,_] Tryz.sizeOf64 ?_);intro w st;dsimp only [setNth,wr] at st;refine a3 ?_
 rotate_left
 focus
  intro hc64;(try simp only [dn] at hc64);refine a2 ?_;refine yfz 1 Tryz.underlying64 Tryz.sizeOf9 ?_;refine yl st 0 Tryz.isAgg9 ?_;refine vy (y_lens rfl Tryz.underlying9) ?_;refine a3 ?_;refine vif ?_ ?_;intro hc69;(try simp only [dn] at hc69);refine a4 ?_;refine vy (y_add rfl rfl rfl (by omega) (by omega)) ?_;refine vc_e (e_call [_,_,_] rfl rfl Tryz.call123 rfl (wrong_any b s _ _ _ _ _ _ (st.res (i:=2) rfl)) ?_);rintro _ w ⟨rfl,cw,hw⟩;replace st:=st.turn (i:=2) (r':=.blk b _) rfl rfl rfl cw (.inl (by simp)) hw;dsimp only [setNth] at st;refine vc_e (ests st 1 [_,_,_,_] Tryz.sizeOf64 ?_);intro w st;dsimp only [setNth,wr] at st;refine a4 ?_
  rotate_left
  intro hc69;(try simp only [dn] at hc69);refine a4 ?_;refine yla st 0 [_,_,_,_] Tryz.isAgg64 Tryz.sizeOf64 ?_;refine vc_e (ests st 1 [_,_,_,_] Tryz.sizeOf64 ?_);intro w st;dsimp only [setNth,wr] at st;refine a3 ?_
 all_goals
  refine vq_ret1 st (.inl rfl) Tryz.results97 (by exact .cell 1 rfl rfl Tryz.isAgg64 Tryz.sizeOf64) ?_;refine⟨_,rfl,?_⟩;have hlen:(List.take (j - i) (List.drop i s)).length=j - i:=by simp;omega
  refine⟨st.chg,?_⟩;rw [tokAt_word hi hc,hT]
  first
  | (rw [if_pos hc64];exact⟨rfl,by dsimp only;rw [hlen,show i+(j - i)=j from by omega];exact st.res (i:=2) rfl⟩)
  | (rw [if_neg (by rw [hc64];simp),if_pos (by omega)];exact⟨rfl,_,st.res (i:=2) rfl⟩)
  | (rw [if_neg (by rw [hc64];simp),if_neg (by omega)];exact⟨rfl,by dsimp only;rw [hlen,show i+(j - i)=j from by omega];exact st.res (i:=2) rfl⟩)
end Go.Proofs.YtkhpdpenlnhbiaaGreatDoor
namespace Go.Proofs.YtkhpdpenlnhbiaaGreatDoor
open Go.RowKit Sx LexS _root_.Go.Proofs.Tryz
theorem contains1_any (c:UInt8) (w:World):Ret Tryz.prog 129 [str signs1,str [c]] w fun v w'=>v=.bool (signs1.contains c)∧w'=w:=
 (Tryz.strings_Contains_one ⟨signs1.toArray⟩ c w).mono fun e w' ⟨he,hw⟩=>⟨_,he,by rw [contains_ib],hw⟩
theorem tokAt_sign {s:List UInt8} {i:Nat} (h:i<s.length) (hc:isLetter (s.getD i 0)=false) (hd:isDigit (s.getD i 0)=false):tokAt (s.drop i) i=
    if isSign2 ((s.drop i).take 2) then .tok ⟨4,(s.drop i).take 2,0,i⟩ else if isSign1 ((s.drop i).take 1) then .tok ⟨4,(s.drop i).take 1,0,i⟩ else .bad 1 i:=by
 rw [drop_cons h];simp only [tokAt,hc,hd,Bool.false_eq_true,if_false,List.take_succ_cons,List.take_zero];rfl
theorem isSign2_len {l:List UInt8} (h:isSign2 l=true):l.length=2:=by
 simp only [isSign2,decide_eq_true_eq] at h;rcases h with h|h|h|h|h|h <;> simp [h]
theorem isSign1_len {l:List UInt8} (h:isSign1 l=true):l.length=1:=by
 match l,h with
 | [],h=>simp [isSign1] at h
 | [_],_=>rfl
 | _::_::_,h=>simp [isSign1] at h
set_option maxHeartbeats 1000000 in
theorem sign_any (l:List UInt8) (w:World):Ret Tryz.prog 122 [str l] w fun v w'=>v=.bool (isSign l)∧w'=w:=by
 refine ret_of [_] Tryz.func122 rfl Tryz.ntmps122 rfl ?_;have st:=St.init w [];refine a16 ?_;refine a3 ?_;refine vif ?_ ?_;intro hc4;(try simp only [dn] at hc4);refine a11 ?_
 rotate_left
 focus
  intro hc4;(try simp only [dn] at hc4);refine a6 ?_;refine vif ?_ ?_;intro hc4;(try simp only [dn] at hc4);refine a11 ?_
  rotate_left
  focus
   intro hc4;(try simp only [dn] at hc4);refine a6 ?_;refine vif ?_ ?_;intro hc4;(try simp only [dn] at hc4);refine a11 ?_
   rotate_left
   focus
    intro hc4;(try simp only [dn] at hc4);refine a6 ?_;refine vif ?_ ?_;intro hc4;(try simp only [dn] at hc4);refine a11 ?_
    rotate_left
    focus
     intro hc4;(try simp only [dn] at hc4);refine a6 ?_;refine vif ?_ ?_;intro hc4;(try simp only [dn] at hc4);refine a11 ?_
     rotate_left
     focus
      intro hc4;(try simp only [dn] at hc4);refine a5 ?_;refine vif ?_ ?_;intro hc4;(try simp only [dn] at hc4);refine a8 ?_
      rotate_left
      focus
       intro hc4;(try simp only [dn] at hc4);refine a6 ?_;refine vy (y_lens rfl Tryz.underlying9) ?_;refine a1 ?_;refine vmb ?_ ?_;intro hg14;(try simp only [dn] at hg14)
       obtain⟨c,rfl⟩:∃ c,l=[c]:=by
        match l,hg14 with
        | [c],_=>exact⟨c,rfl⟩
        | [],h=>simp at h
        | _::_::_,h=>simp at h;omega
       refine a1 ?_;refine vc_e (e_call [_,_] rfl rfl Tryz.call129 rfl (contains1_any _ _) ?_);rintro _ _ ⟨rfl,rfl⟩;refine a1 ?_
       rotate_left
       intro hg14;(try simp only [dn] at hg14);refine a3 ?_
       all_goals
        refine a4 ?_
 all_goals
  refine vr1 st Tryz.results122 ?_;refine⟨?_,rfl⟩;rw [Value.bool.injEq]
  first
  | (symm;simp only [isSign,isSign2,Bool.or_eq_true,decide_eq_true_eq];simp only [*,true_or,or_true];done)
  | (have h2 : isSign2 [c] = false := by simp [isSign2]
     simp [isSign,h2,isSign1];done)
  | (have h2 : isSign2 l = false := by simp only [isSign2, decide_eq_false_iff_not]; simp only [*, or_self, not_false_eq_true]
     have h1:isSign1 l=false:=by
       cases h:isSign1 l
       · rfl
       · have:=isSign1_len h;omega
     simp [isSign,h1,h2])
theorem sign_rd (b:Nat) (s:List UInt8) (i:Nat) (fa fr:Int) (w:World) (hb:w.heap[b]?=some (scn s i fa fr)) (hi:i<s.length) (hs:s.length≤3000000) (hc:isLetter (s.getD i 0)=false) (hd:isDigit (s.getD i 0)=false) :
    Ret Tryz.prog 96 [.pointer (some ⟨b,0,none⟩)] w fun v w'=>Chg [b] w w'∧RdPost b s i fa fr (tokAt (s.drop i) i) v w':=by
 refine ret_of [_] Tryz.func96 rfl Tryz.ntmps96 rfl ?_;have st:=St.init w [b];replace st:=St.of1 [b] hb;refine a2 ?_;refine vc_e (e_al (l:=[_,_,_,_]) st rfl rfl Tryz.zeroValue64 rfl ?_);intro b2 w hb2 st;refine a9 ?_;refine vc_loop (w0:=_) (M:=_) (fun (m:Nat)=>[(0,.pointer (some ⟨b,0,none⟩)),(2,.pointer (some ⟨b2,0,none⟩)),(3,.int .i64 (m:Int))]) (fun (_:Nat)=>[.blk b2 (.cells zeroL.toArray 64 (0,0)),.blk b (scn s i fa fr)]) (fun m _=>m≤2∧(m<2→isSign2 ((s.drop i).take 2)=false)∧(m<1→isSign1 ((s.drop i).take 1)=false)) (fun m=>m) 2 ⟨rfl,rfl,rfl,trivial⟩ st ⟨by omega,by omega,by omega⟩ ?_;rintro m w ⟨hm,h2,h1⟩ st;refine a7 ?_;refine vif ?_ ?_;intro hc5;(try simp only [dn] at hc5);refine a5 ?_;refine vdr0 Tryz.mixed [Yt 0,Yt 1,Yt 2,Yt 3,Yt 4,Yt 5,Yt 6,Yt 7,Yt 8,Yt 9,Yt 10,Yt 11,Yt 12,Yt 13,Yt 14,Yt 15,Yt 16,Yt 17,Yt 18,Yt 19,Yt 20,Yt 21,Yt 22,Yt 23,Yt 24,Yt 25,Yt 26,Yt 27,Nt 28,Yt 29] st ?_;clear st;intro w st hS;refine pm hS ?_;refine pnk hS ?_;refine pfz hS 1 Tryz.underlying113 Tryz.sizeOf3 ?_;refine pld hS 1 Tryz.isAgg3 ?_;refine pm hS ?_;refine vp_take rfl rfl rfl hS (fun w st=>y_add rfl rfl rfl (by omega) (by omega)) ?_;refine pm hS ?_;refine pnk hS ?_;refine pf0 hS Tryz.underlying113 Tryz.sizeOf9 ?_;refine pld hS 1 Tryz.isAgg9 ?_;refine vp_take rfl rfl rfl hS (fun w st=>y_lens rfl Tryz.underlying9) ?_;refine vp_take rfl rfl rfl hS (fun w st=>y_leq rfl rfl) ?_;refine vp_part rfl rfl rfl hS rfl ?_ ?_;intro hg20;(try simp only [dn] at hg20);refine pm hS ?_;refine pnk hS ?_;refine pf0 hS Tryz.underlying113 Tryz.sizeOf9 ?_;refine pld hS 1 Tryz.isAgg9 ?_;refine pm hS ?_;refine pnk hS ?_;refine pfz hS 1 Tryz.underlying113 Tryz.sizeOf3 ?_;refine pld hS 1 Tryz.isAgg3 ?_;refine pm hS ?_;refine pnk hS ?_;refine pfz hS 1 Tryz.underlying113 Tryz.sizeOf3 ?_;refine pld hS 1 Tryz.isAgg3 ?_;refine pm hS ?_;refine vp_take rfl rfl rfl hS (fun w st=>y_add rfl rfl rfl (by omega) (by omega)) ?_;refine vp_take rfl rfl rfl hS (fun w st=>y_sls (i:=_) (j:=(i+m)) rfl rfl rfl Tryz.underlying9 rfl rfl (by omega) (by omega)) ?_;refine vp_do rfl (e_call [_] rfl rfl Tryz.call122 rfl (sign_any _ _) ?_);rintro _ _ ⟨rfl,rfl⟩;refine vp_next (by exact st) ?_;intro hS;refine vp_take rfl rfl rfl hS (fun w st=>y_pickt rfl rfl) ?_;refine vp_end (vq_then ?_);refine vif ?_ ?_;intro hc37;(try simp only [dn] at hc37);refine a4 ?_;refine yfz 1 Tryz.underlying113 Tryz.sizeOf3 ?_;refine yl st 1 Tryz.isAgg3 ?_;refine a1 ?_;refine vy (y_add rfl rfl rfl (by omega) (by omega)) ?_;refine a1 ?_;refine yfz 1 Tryz.underlying113 Tryz.sizeOf3 ?_;refine vc_e (est st 1 Tryz.sizeOf3 ?_);intro w st;dsimp only [setNth,wr] at st;refine a3 ?_;refine vdr Tryz.mixed [Yt 0,Yt 1,Yt 2,Yt 3,Yt 4,Yt 5,Yt 6,Yt 7,Yt 8,Yt 9,Yt 10,Yt 11,Yt 12,Yt 13,Yt 14,Yt 15,Yt 16,Yt 17,Yt 18,Yt 19,Yt 20,Yt 21,Nt 22] [.blk b (scn s ((i:Int)+m) fa fr)] st ?_;clear st;intro w st hS;refine pm hS ?_;refine pnk hS ?_;refine pf0 hS Tryz.underlying113 Tryz.sizeOf9 ?_;refine pld hS 0 Tryz.isAgg9 ?_;refine pm hS ?_;refine pnk hS ?_
 refine pfz hS 1 Tryz.underlying113 Tryz.sizeOf3 ?_;refine pld hS 0 Tryz.isAgg3 ?_;refine pm hS ?_;refine vp_take rfl rfl rfl hS (fun w st=>y_sub rfl rfl (by omega:_=(i:Int)) (by omega) (by omega)) ?_;refine pm hS ?_;refine pnk hS ?_;refine pfz hS 1 Tryz.underlying113 Tryz.sizeOf3 ?_;refine pld hS 0 Tryz.isAgg3 ?_;refine vp_take rfl rfl rfl hS (fun w st=>y_sls (i:=i) (j:=(i+m)) rfl rfl rfl Tryz.underlying9 rfl rfl (by omega) (by omega)) ?_;refine pm hS ?_;refine pnk hS ?_;refine pfz hS 1 Tryz.underlying113 Tryz.sizeOf3 ?_;refine pld hS 0 Tryz.isAgg3 ?_;refine pm hS ?_;refine vp_take rfl rfl rfl hS (fun w st=>y_sub rfl rfl (by omega:_=(i:Int)) (by omega) (by omega)) ?_;refine vp_take rfl rfl rfl hS (fun w st=>ybd (.agg #[_,_,_,_]) [(0,_),(1,_),(3,_)]) ?_;refine vp_do rfl (ests st 0 [_,_,_,_] Tryz.sizeOf64 ?_);intro w st;dsimp only [setNth,wr] at st;refine vp_next st.dr ?_;intro hS;refine vp_end (vq_then (vc_ret (vq_block_ret (vq_then_ret (vq_then_ret (vq_block_ret (vq_then_ret ?_)))))));refine vq_ret1 st (.inl rfl) Tryz.results96 (by exact .cell 0 rfl rfl Tryz.isAgg64 Tryz.sizeOf64) ?_;refine⟨_,rfl,?_⟩;refine⟨st.chg,?_⟩;rw [tokAt_sign hi hc hd];rw [show i+m - i=m by omega] at hc37;have hr:=st.res (i:=1) rfl;rcases (show m=2∨m=1 by omega) with rfl|rfl
 have h2':isSign2 ((s.drop i).take 2)=true:=by
  simp only [isSign,Bool.or_eq_true] at hc37
  rcases hc37 with h|h
  ·exact h
  ·have:=isSign1_len h;simp at this;omega
 rw [if_pos h2'];exact⟨by rfl,by dsimp only;rw [isSign2_len h2'];exact hr⟩
 have h1':isSign1 ((s.drop i).take 1)=true:=by
  simp only [isSign,Bool.or_eq_true] at hc37
  rcases hc37 with h|h
  ·have:=isSign2_len h;simp at this;omega
  ·exact h
 rw [if_neg (by rw [h2 (by omega)];simp),if_pos h1'];exact⟨by rfl,by dsimp only;rw [isSign1_len h1'];exact hr⟩;intro hc37;(try simp only [dn] at hc37);refine a5 ?_;refine vy (y_sub rfl rfl (by omega:_=((m - 1:Nat):Int)) (by omega) (by omega)) ?_;refine a2 ?_;refine vq_again (m - 1)  ⟨rfl,rfl,rfl,trivial⟩ st ?_ ?_
 first
 | (exact⟨by omega,fun _=>by
     rcases (show m=2∨m=1 by omega) with rfl|rfl
     · simp only [isSign,Bool.or_eq_false_iff,show i+2 - i=2 by omega] at hc37;exact hc37.1
     · exact h2 (by omega),fun hlt=>by
     obtain rfl:m=1:=by omega
     simp only [isSign,Bool.or_eq_false_iff,show i+1 - i=1 by omega] at hc37;exact hc37.2⟩)
 omega;intro hg20;(try simp only [dn] at hg20);(iterate 15 refine vp_skip rfl rfl rfl hS ?_);refine vp_do rfl (e_skip rfl rfl (vp_next hS (fun hS=>?_)));refine vp_take rfl rfl rfl hS (fun w st=>y_pickf rfl rfl) ?_;refine vp_end (vq_then ?_);refine a6 ?_;refine vy (y_sub rfl rfl (by omega:_=((m - 1:Nat):Int)) (by omega) (by omega)) ?_;refine a2 ?_;refine vq_again (m - 1)  ⟨rfl,rfl,rfl,trivial⟩ st ?_ ?_
 first
 | (exact⟨by omega,fun _=>by
     rcases (show m=2∨m=1 by omega) with rfl|rfl
     · cases h:isSign2 ((s.drop i).take 2)
       · rfl
       · have hl:=isSign2_len h;simp at hl;omega
     · exact h2 (by omega),fun hlt=>by
     obtain rfl:m=1:=by omega
     omega⟩)
 omega;intro hc5;(try simp only [dn] at hc5);refine a10 ?_;refine yfz 1 Tryz.underlying113 Tryz.sizeOf3 ?_;refine yl st 1 Tryz.isAgg3 ?_;refine vc_e (e_call [_,_,_] rfl rfl Tryz.call123 rfl (wrong_any b s _ _ _ _ _ _ (st.res (i:=1) rfl)) ?_);rintro _ w ⟨rfl,cw,hw⟩;replace st:=st.turn (i:=1) (r':=.blk b _) rfl rfl rfl cw (.inl (by simp)) hw;dsimp only [setNth] at st;refine vc_e (ests st 0 [_,_,_,_] Tryz.sizeOf64 ?_);intro w st;dsimp only [setNth,wr] at st;refine a3 ?_;refine vq_ret1 st (.inl rfl) Tryz.results96 (by exact .cell 0 rfl rfl Tryz.isAgg64 Tryz.sizeOf64) ?_;refine⟨_,rfl,?_⟩;refine⟨st.chg,?_⟩;rw [tokAt_sign hi hc hd,if_neg (by rw [h2 (by omega)];simp),if_neg (by rw [h1 (by omega)];simp)];exact⟨rfl,_,st.res (i:=1) rfl⟩
end Go.Proofs.YtkhpdpenlnhbiaaGreatDoor
