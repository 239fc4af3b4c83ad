/- A part of the proof: contracts of functions and plain laws; each theorem says its own conditions. -/
import Derived.Test.YtnmhlpnapgojjaaGreatDoorPrettyLaidAl
import Derived.Test.YtnmhlpnapgojjaaGreatDoorPrettyLaidK16
import Derived.Test.YtnmhlpnapgojjaaGreatDoorPrettyLaidK13
import Derived.Test.YtnmhlpnapgojjaaGreatDoorPrettyLaidK3
import Derived.Test.YtnmhlpnapgojjaaGreatDoorPrettyLaidK2
import Derived.Test.YtnmhlpnapgojjaaGreatDoorPrettyLaidK14
set_option linter.unusedVariables false
set_option linter.unusedSimpArgs false
/- The reader that goes on: lists,statements,threads,programs. -/
namespace ParS
open Sx LexS
theorem Done.any {α:Type} {F:List Tok→PR α} {σ σ':RS} {x:α} (h:¬ σ.ok) (hd:Done (run F σ) x σ') (y:α):Done (run F σ) y σ':=by rw [zF6 h] at hd ⊢;exact hd
theorem Done.named {β:Type} {e:Nat} {G:Tok→List Tok→PR β} {g:Tok→β} {σ σ2:RS} {y:β} (h:Done (run (G (here σ.r)) (zJ5 e σ)) (g (here σ.r)) σ2) (hy:qB5 σ=true→y=g (here σ.r)) :
    Done (run (fun r=>match zH1 e r with | .error f=>.error f | .ok (t,r')=>G t r') σ) y σ2:=by
  by_cases hb:qB5 σ=true
  · rw [hy hb]
    unfold zJ5 at h;rw [if_pos hb] at h
    have hb':=hb
    simp only [qB5,Bool.and_eq_true,decide_eq_true_eq] at hb'
    obtain⟨ho,hi⟩:=hb'
    rw [zD3 ho]
    rw [zD3 (by exact ho)] at h
    unfold zH1
    rw [if_pos hi];exact h
  · have hn:¬ (zJ5 e σ).ok:=by
      unfold zJ5;rw [if_neg hb]
      exact zO8 (by decide)
    have h:=h.any hn y
    rw [zF6 hn] at h
    unfold zJ5 at h;rw [if_neg hb] at h
    by_cases ho:σ.ok
    · rw [zD3 ho]
      simp only [qB5,ho,decide_true,Bool.true_and,decide_eq_true_eq] at hb
      unfold zH1
      rw [if_neg hb]
      rw [qC1 ho] at h
      exact h
    · rw [qB8 ho] at h
      rw [zF6 ho];exact h
def bnd {α β:Type} (p:PR α) (k:α→List Tok→PR β):PR β:=match p with
  | .error f=>.error f
  | .ok (a,r)=>k a r
def qJ2 {β:Type} (p:Except Flt (List Tok)) (k:List Tok→PR β):PR β:=match p with
  | .error f=>.error f
  | .ok r=>k r
theorem Done.bindB {α β:Type} {F:List Tok→PR α} {σ σ1 σ2:RS} {x:α} {y:β} (G:α→List Tok→PR β) (h1:Done (run F σ) x σ1) (h2:Done (run (G x) σ1) y σ2):Done (run (fun r=>bnd (F r) G) σ) y σ2:=
  (Done.bind h1 h2).congr (fun r=>by unfold bnd;cases F r with|error f=>rfl|ok p=>rfl)
theorem Done.wantB {β:Type} {e:Nat} {s:List UInt8} {G:List Tok→PR β} {σ σ2:RS} {y:β} (h2:Done (run G (zF3 e s σ)) y σ2):Done (run (fun r=>qJ2 (ParS.want e s r) G) σ) y σ2:=
  (Done.want h2).congr (fun r=>by unfold qJ2;cases ParS.want e s r with|error f=>rfl|ok p=>rfl)
theorem Done.namedB {β:Type} {e:Nat} {σ σ2:RS} {y:β} (G:Tok→List Tok→PR β) (g:Tok→β) (h:Done (run (G (here σ.r)) (zJ5 e σ)) (g (here σ.r)) σ2) (hy:qB5 σ=true→y=g (here σ.r)):Done (run (fun r=>bnd (zH1 e r) G) σ) y σ2:=
  (Done.named h hy).congr (fun r=>by unfold bnd;cases zH1 e r with|error f=>rfl|ok p=>rfl)
theorem zR4 {σ:RS} (h:qB5 σ=true):zQ σ=(here σ.r).text:=if_pos h
theorem qG9 {σ:RS} (h:qB5 σ=true):zW4 σ=(here σ.r).at_:=if_pos h
theorem gN1 {σ:RS} (h:qB5 σ=false):zQ σ=[]:=if_neg (by simp [h])
theorem gM1 {σ:RS} (h:qB5 σ=false):zW4 σ=0:=if_neg (by simp [h])
def gB5 {α:Type} (acc:List α) (p:PR (List α)):PR (List α):=match p with
  | .error f=>.error f
  | .ok (l,r)=>.ok (acc++l,r)
theorem qM5 {α:Type} (p:PR (List α)):gB5 [] p=p:=by unfold gB5;cases p with|error f=>rfl|ok q=>rfl
theorem Done.add {α:Type} {acc l:List α} {p:PR (List α)} {σ:RS} (h:Done p l σ):Done (gB5 acc p) (acc++l) σ:=by
  cases p with
  | error f=>exact h
  | ok q=>obtain⟨h1,h2,h3⟩:=h;exact⟨by rw [h1],h2,h3⟩
theorem Done.add_nil {α:Type} {acc:List α} {p:PR (List α)} {σ:RS} (h:Done p [] σ):Done (gB5 acc p) acc σ:=by
  have:=h.add (acc:=acc);rwa [List.append_nil] at this
section
variable {e:Nat}
theorem kO9 (σ:RS):Done (run (declP e) σ) ⟨zQ σ,0,(zW4 σ:Int)⟩ (zJ5 e σ):=
  (Done.named (β:=Dc) (e:=e) (σ:=σ) (G:=fun t r=>.ok (⟨t.text,0,(t.at_:Int)⟩,r)) (g:=fun t=>⟨t.text,0,(t.at_:Int)⟩) (Done.ret _ _) (fun h=>by rw [zR4 h,qG9 h])).congr (fun r=>rfl)
theorem gL0 {one:List Tok→PR Dc} {k:Nat} {acc:List Dc} {d:Dc} {σ σ1:RS} (h:Done (run one σ) d σ1) (ht:zC7 [44] σ1=true) :
    gB5 acc (run (zH0 e one (k+1)) σ)=gB5 (acc++[d]) (run (zH0 e one k) ⟨σ1.r.tail,σ1.f⟩):=by
  obtain⟨ho,hi⟩:=zC8 ht
  obtain⟨h1,h2⟩:=h.ok_inv ho
  rw [zD3 h1,zD3 (by exact ho)]
  simp only [zH0,h2]
  rw [if_pos hi]
  cases hl:zH0 e one k σ1.r.tail with
  | error f=>rfl
  | ok p=>simp [gB5]
theorem gN6 {one:List Tok→PR Dc} {k:Nat} {d:Dc} {σ σ1:RS} (h:Done (run one σ) d σ1) (ht:zC7 [44] σ1=false):Done (run (zH0 e one (k+1)) σ) [d] (zF3 e [59] σ1):=by
  have hw:Done (run (fun r=>match ParS.want e [59] r with | .error f=>.error f | .ok r'=>.ok ([d],r')) σ1) [d] (zF3 e [59] σ1):=Done.want (Done.ret _ _)
  by_cases h1:σ1.ok
  · obtain⟨ho,h2⟩:=h.ok_inv h1
    rw [zD3 ho]
    rw [zD3 h1] at hw
    rw [zG4 h1] at ht
    simp only [zH0,h2]
    rw [if_neg (by simp [ht])]
    cases hq:ParS.want e [59] σ1.r with
    | error f=>rw [hq] at hw;exact hw
    | ok r=>rw [hq] at hw;exact hw
  · rw [zF6 h1,qE8 h1] at hw
    rw [qE8 h1]
    by_cases ho:σ.ok
    · rw [zD3 ho] at h ⊢
      simp only [zH0]
      cases hq:one σ.r with
      | error f=>rw [hq] at h;exact h
      | ok p=>rw [hq] at h;exact absurd h.2.2 h1
    · rw [zF6 ho] at h ⊢;exact h
theorem gY6 {one:List Tok→PR Dc} {k:Nat} {σ:RS} (h:¬ σ.ok):Done (run (zH0 e one k) σ) [] (zF3 e [59] σ):=by rw [qE8 h];exact .bad h _
theorem kM {σ:RS} (ht:zC7 [61] (zJ5 e σ)=false):Done (run (initP e) σ) ⟨zQ σ,0,(zW4 σ:Int)⟩ (zJ5 e σ):=by
  refine(Done.named (β:=Dc) (e:=e) (σ:=σ) (G:=fun t r=>if isT [61] r=true then (match qO4 e (isT [45] r.tail) (if isT [45] r.tail=true then r.tail.tail else r.tail) with
        | .error f=>.error f
        | .ok (x,r')=>.ok (⟨t.text,x,(t.at_:Int)⟩,r'))
    else .ok (⟨t.text,0,(t.at_:Int)⟩,r)) (g:=fun t=>⟨t.text,0,(t.at_:Int)⟩) ?_ (fun h=>by rw [zR4 h,qG9 h])).congr (fun r=>rfl)
  by_cases ho:(zJ5 e σ).ok
  · rw [zD3 ho]
    rw [zG4 ho] at ht
    rw [if_neg (by simp [ht])]
    exact⟨rfl,rfl,ho⟩
  · exact .bad ho _
theorem kJ4 {σ σ3 σ4:RS} {m:Bool} (ht:zC7 [61] (zJ5 e σ)=true) (hm:zC7 [45] ⟨(zJ5 e σ).r.tail,(zJ5 e σ).f⟩=m) (h3:σ3=gB8 [45] ⟨(zJ5 e σ).r.tail,(zJ5 e σ).f⟩)
    (h4:((here σ3.r).kind=3∧σ4=⟨σ3.r.tail,σ3.f⟩)∨((here σ3.r).kind≠3∧σ4=zY8 e 2 σ3)):Done (run (initP e) σ) ⟨zQ σ,if m=true then -((here σ3.r).word:Int) else ((here σ3.r).word:Int),(zW4 σ:Int)⟩ σ4:=by
  obtain⟨ho,hi⟩:=zC8 ht
  have hnb:qB5 σ=true:=by
    cases hb:qB5 σ with
    | true=>rfl
    | false=>exact absurd ho (by unfold zJ5;rw [if_neg (by simp [hb])];exact zO8 (by decide))
  have ho':(RS.mk (zJ5 e σ).r.tail (zJ5 e σ).f).ok:=ho
  rw [zG4 ho'] at hm
  have h3r:σ3.r=if isT [45] (zJ5 e σ).r.tail=true then (zJ5 e σ).r.tail.tail else (zJ5 e σ).r.tail:=by
    rw [h3];unfold gB8;rw [zG4 ho'];dsimp only;split <;> rfl
  have h3f:σ3.ok:=by rw [h3];unfold gB8;split <;> exact ho
  refine(Done.named (β:=Dc) (e:=e) (σ:=σ) (G:=fun t r=>if isT [61] r=true then (match qO4 e (isT [45] r.tail) (if isT [45] r.tail=true then r.tail.tail else r.tail) with
        | .error f=>.error f
        | .ok (x,r')=>.ok (⟨t.text,x,(t.at_:Int)⟩,r'))
    else .ok (⟨t.text,0,(t.at_:Int)⟩,r)) (g:=fun t=>⟨t.text,if m=true then -((here σ3.r).word:Int) else ((here σ3.r).word:Int),(t.at_:Int)⟩) ?_ (fun h=>by rw [zR4 h,qG9 h])).congr (fun r=>rfl)
  rw [zD3 ho,if_pos hi,← h3r]
  dsimp only at hm
  rw [hm]
  unfold qO4
  rcases h4 with ⟨hk,rfl⟩|⟨hk,rfl⟩
  · rw [if_pos hk]
    exact⟨rfl,rfl,h3f⟩
  · rw [if_neg hk,qC1 h3f]
    exact⟨rfl,by show (2:Nat)≠0;decide⟩
theorem kG4 {st:List Tok→PR Sm} {k:Nat} {acc:List Sm} {s:Sm} {σ σ1:RS} (ho:σ.ok) (ht:zC7 [125] σ=false) (h:Done (run st σ) s σ1) :
    gB5 acc (run (zN3 st (k+1)) σ)=gB5 (acc++[s]) (run (zN3 st k) σ1):=by
  rw [zG4 ho] at ht
  rw [zD3 ho] at h ⊢
  simp only [zN3]
  rw [if_neg (by simp [ht])]
  cases hs:st σ.r with
  | error f=>
    rw [hs] at h
    have hb:¬ σ1.ok:=by show ¬ σ1.f.2=0;rw [h.1];exact h.2
    rw [zF6 hb,h.1];rfl
  | ok p=>
    obtain⟨s1,r1⟩:=p
    rw [hs] at h
    obtain⟨rfl,h2,h3⟩:=h
    rw [zD3 h3,h2]
    simp only
    cases zN3 st k r1 with
    | error f=>rfl
    | ok q=>simp [gB5]
theorem kU7 {st:List Tok→PR Sm} {k:Nat} {σ:RS} (ht:zC7 [125] σ=true):Done (run (zN3 st (k+1)) σ) [] ⟨σ.r.tail,σ.f⟩:=by
  obtain⟨ho,hi⟩:=zC8 ht
  rw [zD3 ho]
  simp only [zN3]
  rw [if_pos hi]
  exact⟨rfl,rfl,ho⟩
theorem qP7 {m:Nat} {σ σ2:RS} {l:List Sm} (hm:¬ (zC7 [123] σ=true∧m=0)) (h:Done (run (fun r1=>zN3 (zO4 e (m - 1)) (r1.length+1) r1) (zF3 e [123] σ)) l σ2):Done (run (gN e m) σ) l σ2:=by
  have hw:=Done.want h
  cases m with
  | succ m=>exact hw.congr (fun r=>rfl)
  | zero=>
    have ht:zC7 [123] σ=false:=by cases hb:zC7 [123] σ with|false=>rfl|true=>exact absurd ⟨hb,rfl⟩ hm
    by_cases ho:σ.ok
    · refine hw.at_ ?_
      rw [zG4 ho] at ht
      simp only [gN,ht,qT4 ht,Bool.false_eq_true,if_false] <;> rfl
    · rw [zF6 ho] at hw ⊢;exact hw
theorem kF2 {σ σ2:RS} {l:List Sm} (ht:zC7 [123] σ=true) (hf:σ2.f=(zY8 e 3 σ).f):Done (run (gN e 0) σ) l σ2:=by
  obtain⟨ho,hi⟩:=zC8 ht
  refine .of_fail (k:=3) (by decide) (fun _=>?_) hf
  simp only [gN,hi,if_true]
theorem kI6 {σ σ2:RS} {x:Ex} (h:Done (run (zN8 e 64) (zF3 e [40] σ)) x σ2):Done (run (condP e) σ) x (zF3 e [41] σ2):=by
  refine(Done.wantB (h.bindB (fun x r=>qJ2 (ParS.want e [41] r) fun r2=>.ok (x,r2)) (Done.wantB (Done.ret x _)))).congr (fun r=>?_)
  unfold condP qJ2
  cases ParS.want e [40] r with
  | error f=>rfl
  | ok r1=>
    unfold bnd;dsimp only
    cases zN8 e 64 r1 with
    | error f=>rfl
    | ok p=>dsimp only;cases ParS.want e [41] p.2 <;> rfl
theorem kQ9 {σ σ2:RS} {x:Ex} (h:Done (run (zN8 e 64) σ) x σ2):Done (run (zJ4 e) σ) x (zF3 e [59] σ2):=by
  refine(h.bindB (fun x r=>qJ2 (ParS.want e [59] r) fun r2=>.ok (x,r2)) (Done.wantB (Done.ret x _))).congr (fun r=>?_)
  unfold zJ4 bnd qJ2
  cases zN8 e 64 r with
  | error f=>rfl
  | ok p=>dsimp only;cases ParS.want e [59] p.2 <;> rfl
theorem zN1 {r:List Tok} {s:List UInt8} (hs:zM1 s=false) (hk:(here r).kind=4→zM1 (here r).text=true):formT (here r) s=isT s r:=by
  unfold formT isT
  by_cases ht:(here r).text=s
  · have h4:¬ (here r).kind=4:=fun h=>by have:=hk h;rw [ht,hs] at this;cases this
    simp [ht,h4]
  · simp [ht]
section
variable {blk:List Tok→PR (List Sm)} {σ:RS} (hk:(here σ.r).kind=4→zM1 (here σ.r).text=true)
include hk
theorem kS5 (ht:zC7 wIf σ=true):run (zS0 e blk) σ=run (choiceP e blk (atT e σ.r)) ⟨σ.r.tail,σ.f⟩:=by
  obtain⟨ho,hi⟩:=zC8 ht
  rw [zD3 ho,zD3 (by exact ho),zV6,zN1 (by decide) hk,if_pos hi]
theorem kB (h1:zC7 wIf σ=false) (ht:zC7 zH σ=true):run (zS0 e blk) σ=run (loopP e blk (atT e σ.r)) ⟨σ.r.tail,σ.f⟩:=by
  obtain⟨ho,hi⟩:=zC8 ht
  rw [zG4 ho] at h1
  rw [zD3 ho,zD3 (by exact ho),zV6,zN1 (by decide) hk,zN1 (by decide) hk,if_neg (by simp [h1]),if_pos hi]
theorem kQ1 (h1:zC7 wIf σ=false) (h2:zC7 zH σ=false) (ht:zC7 zH7 σ=true):run (zS0 e blk) σ=run (guardP e blk (atT e σ.r)) ⟨σ.r.tail,σ.f⟩:=by
  obtain⟨ho,hi⟩:=zC8 ht
  rw [zG4 ho] at h1 h2
  rw [zD3 ho,zD3 (by exact ho),zV6,zN1 (by decide) hk,zN1 (by decide) hk,zN1 (by decide) hk,if_neg (by simp [h1]),if_neg (by simp [h2]),if_pos hi]
theorem kD (h1:zC7 wIf σ=false) (h2:zC7 zH σ=false) (h3:zC7 zH7 σ=false) (ht:zC7 zI2 σ=true):run (zS0 e blk) σ=run (printP e (atT e σ.r)) ⟨σ.r.tail,σ.f⟩:=by
  obtain⟨ho,hi⟩:=zC8 ht
  rw [zG4 ho] at h1 h2 h3
  rw [zD3 ho,zD3 (by exact ho),zV6,zN1 (by decide) hk,zN1 (by decide) hk,zN1 (by decide) hk,zN1 (by decide) hk,if_neg (by simp [h1]),if_neg (by simp [h2]),if_neg (by simp [h3]),if_pos hi]
theorem kI0 (h1:zC7 wIf σ=false) (h2:zC7 zH σ=false) (h3:zC7 zH7 σ=false) (h4:zC7 zI2 σ=false) (ht:zC7 zO9 σ=true):run (zS0 e blk) σ=run (skipP e (atT e σ.r)) ⟨σ.r.tail,σ.f⟩:=by
  obtain⟨ho,hi⟩:=zC8 ht
  rw [zG4 ho] at h1 h2 h3 h4
  rw [zD3 ho,zD3 (by exact ho),zV6,zN1 (by decide) hk,zN1 (by decide) hk,zN1 (by decide) hk,zN1 (by decide) hk,zN1 (by decide) hk,if_neg (by simp [h1]),if_neg (by simp [h2]),if_neg (by simp [h3]),if_neg (by simp [h4]),if_pos hi]
theorem gS8 (h1:zC7 wIf σ=false) (h2:zC7 zH σ=false) (h3:zC7 zH7 σ=false) (h4:zC7 zI2 σ=false) (h5:zC7 zO9 σ=false):run (zS0 e blk) σ=run (zK9 e (atT e σ.r)) σ:=by
  by_cases ho:σ.ok
  · rw [zG4 ho] at h1 h2 h3 h4 h5
    rw [zD3 ho,zD3 ho,zV6,zN1 (by decide) hk,zN1 (by decide) hk,zN1 (by decide) hk,zN1 (by decide) hk,zN1 (by decide) hk,if_neg (by simp [h1]),if_neg (by simp [h2]),if_neg (by simp [h3]),if_neg (by simp [h4]),if_neg (by simp [h5])]
  · rw [zF6 ho,zF6 ho]
end
theorem kN0 {blk:List Tok→PR (List Sm)} {a:Nat} {σ σ1 σ2:RS} {x:Ex} {b:List Sm} (h1:Done (run (condP e) σ) x σ1) (h2:Done (run blk σ1) b σ2):Done (run (loopP e blk a) σ) (.mk 4 [] [] [x] b [] (a:Int)) σ2:=by
  refine(h1.bindB (fun x r=>bnd (blk r) fun b r1=>.ok (Sm.mk 4 [] [] [x] b [] (a:Int),r1)) (h2.bindB _ (Done.ret _ _))).congr (fun r=>?_)
  unfold loopP bnd
  cases condP e r with
  | error f=>rfl
  | ok p=>dsimp only;cases blk p.2 <;> rfl
theorem kC9 {blk:List Tok→PR (List Sm)} {a:Nat} {σ σ2:RS} {b:List Sm} (h2:Done (run blk (zJ5 e σ)) b σ2):Done (run (guardP e blk a) σ) (.mk 5 (zQ σ) [] [] b [] (a:Int)) σ2:=by
  refine(Done.namedB (fun t r=>bnd (blk r) fun b r1=>.ok (Sm.mk 5 t.text [] [] b [] (a:Int),r1)) (fun t=>Sm.mk 5 t.text [] [] b [] (a:Int)) (h2.bindB _ (Done.ret _ _)) (fun h=>by rw [zR4 h])).congr (fun r=>?_)
  unfold guardP bnd
  cases zH1 e r with
  | error f=>rfl
  | ok p=>dsimp only;cases blk p.2 <;> rfl
theorem kA5 {a:Nat} {σ σ1:RS} {x:Ex} (h:Done (run (zN8 e 64) σ) x σ1):Done (run (printP e a) σ) (.mk 6 [] [] [x] [] [] (a:Int)) (zF3 e [59] σ1):=by
  refine(h.bindB (fun x r=>qJ2 (ParS.want e [59] r) fun r2=>.ok (Sm.mk 6 [] [] [x] [] [] (a:Int),r2)) (Done.wantB (Done.ret _ _))).congr (fun r=>?_)
  unfold printP bnd qJ2
  cases zN8 e 64 r with
  | error f=>rfl
  | ok p=>dsimp only;cases ParS.want e [59] p.2 <;> rfl
theorem kQ8 {a:Nat} {σ:RS}:Done (run (skipP e a) σ) (.mk 7 [] [] [] [] [] (a:Int)) (zF3 e [59] σ):=
  (Done.wantB (G:=fun r=>.ok (Sm.mk 7 [] [] [] [] [] (a:Int),r)) (Done.ret _ _)).congr (fun r=>by unfold skipP qJ2;cases ParS.want e [59] r <;> rfl)
def gP9 (blk:List Tok→PR (List Sm)) (a:Nat) (x:Ex) (b:List Sm) (r1:List Tok):PR Sm:=if isT zS6 r1=true then bnd (blk r1.tail) (fun l r2=>.ok (Sm.mk 3 [] [] [x] b l (a:Int),r2)) else .ok (Sm.mk 3 [] [] [x] b [] (a:Int),r1)
theorem qY3 (blk:List Tok→PR (List Sm)) (a:Nat) (r:List Tok):bnd (condP e r) (fun x r=>bnd (blk r) fun b r1=>gP9 blk a x b r1)=choiceP e blk a r:=by
  unfold choiceP bnd
  cases condP e r with
  | error f=>rfl
  | ok p=>
    dsimp only
    cases blk p.2 with
    | error f=>rfl
    | ok q=>
      dsimp only
      unfold gP9 bnd
      split
      · cases blk q.2.tail <;> rfl
      · rfl
theorem gO6 {blk:List Tok→PR (List Sm)} {a:Nat} {σ σ1 σ2 σ3:RS} {x:Ex} {b l:List Sm} (h1:Done (run (condP e) σ) x σ1) (h2:Done (run blk σ1) b σ2) (ht:zC7 zS6 σ2=true) (h3:Done (run blk ⟨σ2.r.tail,σ2.f⟩) l σ3) :
    Done (run (choiceP e blk a) σ) (.mk 3 [] [] [x] b l (a:Int)) σ3:=by
  refine(h1.bindB (fun x r=>bnd (blk r) fun b r1=>gP9 blk a x b r1) (h2.bindB (fun b r1=>gP9 blk a x b r1) ?_)).congr (qY3 blk a)
  exact Done.ifT (G1:=fun r=>bnd (blk r) (fun l r2=>.ok (Sm.mk 3 [] [] [x] b l (a:Int),r2))) ht (h3.bindB _ (Done.ret _ _))
theorem kA7 {blk:List Tok→PR (List Sm)} {a:Nat} {σ σ1 σ2:RS} {x:Ex} {b:List Sm} (h1:Done (run (condP e) σ) x σ1) (h2:Done (run blk σ1) b σ2) (ht:zC7 zS6 σ2=false) :
    Done (run (choiceP e blk a) σ) (.mk 3 [] [] [x] b [] (a:Int)) σ2:=by
  refine(h1.bindB (fun x r=>bnd (blk r) fun b r1=>gP9 blk a x b r1) (h2.bindB (fun b r1=>gP9 blk a x b r1) ?_)).congr (qY3 blk a)
  exact Done.ifF (G1:=fun r=>bnd (blk r) (fun l r2=>.ok (Sm.mk 3 [] [] [x] b l (a:Int),r2))) ht (Done.ret _ _)
def gS6 (e:Nat) (r:List Tok):PR (List UInt8×Ex):=qJ2 (ParS.want e [40] r) fun r=>bnd (zH1 e r) fun t r1=>qJ2 (ParS.want e [44] r1) fun r2=>bnd (zN8 e 64 r2) fun x r3=>qJ2 (ParS.want e [41] r3) fun r4=>qJ2 (ParS.want e [59] r4) fun r5=>.ok ((t.text,x),r5)
theorem gI5 (r:List Tok):gS6 e r=qK2 e r:=by
  unfold gS6 qK2 bnd qJ2
  cases ParS.want e [40] r with
  | error f=>rfl
  | ok r0=>
    dsimp only
    cases zH1 e r0 with
    | error f=>rfl
    | ok p=>
      dsimp only
      cases ParS.want e [44] p.2 with
      | error f=>rfl
      | ok r2=>
        dsimp only
        cases zN8 e 64 r2 with
        | error f=>rfl
        | ok q=>
          dsimp only
          cases ParS.want e [41] q.2 with
          | error f=>rfl
          | ok r4=>dsimp only;cases ParS.want e [59] r4 <;> rfl
def kT1 (e:Nat) (a:Nat) (n:List UInt8) (r1:List Tok):PR Sm:=if isT zY5 r1=true then bnd (gS6 e r1.tail) (fun p r2=>.ok (Sm.mk 2 n p.1 [p.2] [] [] (a:Int),r2)) else bnd (zJ4 e r1) (fun x r2=>.ok (Sm.mk 1 n [] [x] [] [] (a:Int),r2))
theorem gA1 (a:Nat) (r:List Tok):bnd (zH1 e r) (fun t r=>qJ2 (ParS.want e [61] r) fun r1=>kT1 e a t.text r1)=zK9 e a r:=by
  unfold zK9 bnd qJ2
  cases zH1 e r with
  | error f=>rfl
  | ok p=>
    dsimp only
    cases ParS.want e [61] p.2 with
    | error f=>rfl
    | ok r1=>
      dsimp only
      unfold kT1 bnd
      split
      · rw [gI5];cases qK2 e r1.tail <;> rfl
      · cases zJ4 e r1 <;> rfl
theorem gO5 {a:Nat} {σ σ4 σ7:RS} {x:Ex} (ht:zC7 zY5 (zF3 e [61] (zJ5 e σ))=true) (h4:σ4=zF3 e [40] ⟨(zF3 e [61] (zJ5 e σ)).r.tail,(zF3 e [61] (zJ5 e σ)).f⟩)
    (hx:Done (run (zN8 e 64) (zF3 e [44] (zJ5 e σ4))) x σ7):Done (run (zK9 e a) σ) (.mk 2 (zQ σ) (zQ σ4) [x] [] [] (a:Int)) (zF3 e [59] (zF3 e [41] σ7)):=by
  have k3:Done (run (gS6 e) ⟨(zF3 e [61] (zJ5 e σ)).r.tail,(zF3 e [61] (zJ5 e σ)).f⟩) (zQ σ4,x) (zF3 e [59] (zF3 e [41] σ7)):=by
    refine Done.wantB (G:=fun r=>bnd (zH1 e r) fun t r1=>qJ2 (ParS.want e [44] r1) fun r2=>bnd (zN8 e 64 r2) fun x r3=>qJ2 (ParS.want e [41] r3) fun r4=>qJ2 (ParS.want e [59] r4) fun r5=>.ok ((t.text,x),r5)) ?_
    rw [← h4]
    refine Done.namedB (fun t r1=>qJ2 (ParS.want e [44] r1) fun r2=>bnd (zN8 e 64 r2) fun x r3=>qJ2 (ParS.want e [41] r3) fun r4=>qJ2 (ParS.want e [59] r4) fun r5=>.ok ((t.text,x),r5)) (fun t=>(t.text,x)) ?_ (fun h=>by rw [zR4 h])
    exact Done.wantB (hx.bindB (fun x r3=>qJ2 (ParS.want e [41] r3) fun r4=>qJ2 (ParS.want e [59] r4) fun r5=>.ok (((here σ4.r).text,x),r5)) (Done.wantB (Done.wantB (Done.ret _ _))))
  refine(Done.namedB (fun t r=>qJ2 (ParS.want e [61] r) fun r1=>kT1 e a t.text r1) (fun t=>Sm.mk 2 t.text (zQ σ4) [x] [] [] (a:Int)) (Done.wantB ?_) (fun h=>by rw [zR4 h])).congr (gA1 a)
  exact Done.ifT (G1:=fun r=>bnd (gS6 e r) (fun p r2=>.ok (Sm.mk 2 (here σ.r).text p.1 [p.2] [] [] (a:Int),r2))) ht (k3.bindB _ (Done.ret _ _))
theorem gK6 {a:Nat} {σ σ3:RS} {x:Ex} (ht:zC7 zY5 (zF3 e [61] (zJ5 e σ))=false) (hx:Done (run (zN8 e 64) (zF3 e [61] (zJ5 e σ))) x σ3):Done (run (zK9 e a) σ) (.mk 1 (zQ σ) [] [x] [] [] (a:Int)) (zF3 e [59] σ3):=by
  refine(Done.namedB (fun t r=>qJ2 (ParS.want e [61] r) fun r1=>kT1 e a t.text r1) (fun t=>Sm.mk 1 t.text [] [x] [] [] (a:Int)) (Done.wantB ?_) (fun h=>by rw [zR4 h])).congr (gA1 a)
  exact Done.ifF (G1:=fun r=>bnd (gS6 e r) (fun p r2=>.ok (Sm.mk 2 (here σ.r).text p.1 [p.2] [] [] (a:Int),r2))) ht ((kQ9 hx).bindB _ (Done.ret _ _))
theorem zP7 {s:List UInt8} {r r':List Tok} (h:ParS.want e s r=.ok r'):r'.length<r.length:=by
  obtain⟨hc,rfl⟩:=qF h;exact zC2 (zI5 hc)
theorem qO1 {r r':List Tok} {t:Tok} (h:zH1 e r=.ok (t,r')):r'.length<r.length:=by
  unfold zH1 at h;split at h
  · rename_i hk;cases h;exact zC2 (zN7 hk (by decide))
  · cases h
theorem gY2 {r r':List Tok} {x:Ex} (h:condP e r=.ok (x,r')):r'.length<r.length:=by
  unfold condP at h
  cases h1:ParS.want e [40] r with
  | error f=>rw [h1] at h;cases h
  | ok r1=>
    rw [h1] at h;dsimp only at h
    have k1:=zP7 h1
    cases h2:zN8 e 64 r1 with
    | error f=>rw [h2] at h;cases h
    | ok p=>
      obtain⟨y,r2⟩:=p
      rw [h2] at h;dsimp only at h
      have k2:=qO7 _ _ _ _ _ h2
      cases h3:ParS.want e [41] r2 with
      | error f=>rw [h3] at h;cases h
      | ok r3=>rw [h3] at h;cases h;have:=zP7 h3;omega
theorem kV9 {r r':List Tok} {x:Ex} (h:zJ4 e r=.ok (x,r')):r'.length<r.length:=by
  unfold zJ4 at h
  cases h2:zN8 e 64 r with
  | error f=>rw [h2] at h;cases h
  | ok p=>
    obtain⟨y,r2⟩:=p
    rw [h2] at h;dsimp only at h
    have k2:=qO7 _ _ _ _ _ h2
    cases h3:ParS.want e [59] r2 with
    | error f=>rw [h3] at h;cases h
    | ok r3=>rw [h3] at h;cases h;have:=zP7 h3;omega
theorem kW3 {r r':List Tok} {p:List UInt8×Ex} (h:qK2 e r=.ok (p,r')):r'.length<r.length:=by
  rw [← gI5] at h
  unfold gS6 bnd qJ2 at h
  cases h1:ParS.want e [40] r with
  | error f=>rw [h1] at h;cases h
  | ok r1=>
    rw [h1] at h;dsimp only at h
    have k1:=zP7 h1
    cases hn:zH1 e r1 with
    | error f=>rw [hn] at h;cases h
    | ok q=>
      rw [hn] at h;dsimp only at h
      have k2:=qO1 (r':=q.2) (t:=q.1) hn
      cases h3:ParS.want e [44] q.2 with
      | error f=>rw [h3] at h;cases h
      | ok r3=>
        rw [h3] at h;dsimp only at h
        have k3:=zP7 h3
        cases h4:zN8 e 64 r3 with
        | error f=>rw [h4] at h;cases h
        | ok y=>
          rw [h4] at h;dsimp only at h
          have k4:=qO7 _ _ _ y.1 y.2 h4
          cases h5:ParS.want e [41] y.2 with
          | error f=>rw [h5] at h;cases h
          | ok r5=>
            rw [h5] at h;dsimp only at h
            have k5:=zP7 h5
            cases h6:ParS.want e [59] r5 with
            | error f=>rw [h6] at h;cases h
            | ok r6=>rw [h6] at h;cases h;have:=zP7 h6;omega
theorem kE7 {a:Nat} {r r':List Tok} {s:Sm} (h:zK9 e a r=.ok (s,r')):r'.length<r.length:=by
  rw [← gA1] at h
  unfold bnd qJ2 at h
  cases hn:zH1 e r with
  | error f=>rw [hn] at h;cases h
  | ok q=>
    rw [hn] at h;dsimp only at h
    have k2:=qO1 (r':=q.2) (t:=q.1) hn
    cases h3:ParS.want e [61] q.2 with
    | error f=>rw [h3] at h;cases h
    | ok r3=>
      rw [h3] at h;dsimp only at h
      have k3:=zP7 h3
      unfold kT1 bnd at h
      split at h
      · rw [gI5] at h
        cases h4:qK2 e r3.tail with
        | error f=>rw [h4] at h;cases h
        | ok y=>rw [h4] at h;cases h;have:=kW3 (p:=y.1) (r':=y.2) h4;simp only [List.length_tail] at this;omega
      · cases h4:zJ4 e r3 with
        | error f=>rw [h4] at h;cases h
        | ok y=>rw [h4] at h;cases h;have:=kV9 (x:=y.1) (r':=y.2) h4;omega
def LeL (bk:List Tok→PR (List Sm)):Prop:=∀ r l r',bk r=.ok (l,r')→r'.length≤r.length
theorem gL5 {bk:List Tok→PR (List Sm)} (hb:LeL bk) {r r':List Tok} {s:Sm} (h:zS0 e bk r=.ok (s,r')):r'.length<r.length:=by
  rw [zV6] at h
  have hform:∀ w,formT (here r) w=true→r.tail.length<r.length:=fun w hw=>zC2 (by
    unfold formT at hw
    simp only [Bool.and_eq_true,decide_eq_true_eq] at hw
    exact zN7 hw.2 (by decide))
  split at h
  · rename_i hw
    have:=hform _ hw
    rw [← qY3] at h
    unfold bnd at h
    cases h1:condP e r.tail with
    | error f=>rw [h1] at h;cases h
    | ok p=>
      rw [h1] at h;dsimp only at h
      have k1:=gY2 (x:=p.1) (r':=p.2) h1
      cases h2:bk p.2 with
      | error f=>rw [h2] at h;cases h
      | ok q=>
        rw [h2] at h;dsimp only at h
        have k2:=hb _ q.1 q.2 h2
        unfold gP9 bnd at h
        split at h
        · cases h3:bk q.2.tail with
          | error f=>rw [h3] at h;cases h
          | ok y=>rw [h3] at h;cases h;have:=hb _ y.1 y.2 h3;simp only [List.length_tail] at this;omega
        · cases h;omega
  · split at h
    · rename_i hw
      have:=hform _ hw
      unfold loopP at h
      cases h1:condP e r.tail with
      | error f=>rw [h1] at h;cases h
      | ok p=>
        rw [h1] at h;dsimp only at h
        have k1:=gY2 (x:=p.1) (r':=p.2) h1
        cases h2:bk p.2 with
        | error f=>rw [h2] at h;cases h
        | ok q=>rw [h2] at h;cases h;have:=hb _ q.1 q.2 h2;omega
    · split at h
      · rename_i hw
        have:=hform _ hw
        unfold guardP at h
        cases h1:zH1 e r.tail with
        | error f=>rw [h1] at h;cases h
        | ok p=>
          rw [h1] at h;dsimp only at h
          have k1:=qO1 (t:=p.1) (r':=p.2) h1
          cases h2:bk p.2 with
          | error f=>rw [h2] at h;cases h
          | ok q=>rw [h2] at h;cases h;have:=hb _ q.1 q.2 h2;omega
      · split at h
        · rename_i hw
          have:=hform _ hw
          unfold printP at h
          cases h2:zN8 e 64 r.tail with
          | error f=>rw [h2] at h;cases h
          | ok p=>
            obtain⟨y,r2⟩:=p
            rw [h2] at h;dsimp only at h
            have k2:=qO7 _ _ _ _ _ h2
            cases h3:ParS.want e [59] r2 with
            | error f=>rw [h3] at h;cases h
            | ok r3=>rw [h3] at h;cases h;have:=zP7 h3;omega
        · split at h
          · rename_i hw
            have:=hform _ hw
            unfold skipP at h
            cases h3:ParS.want e [59] r.tail with
            | error f=>rw [h3] at h;cases h
            | ok r3=>rw [h3] at h;cases h;have:=zP7 h3;omega
          · exact kE7 h
theorem gA4 {st:List Tok→PR Sm} (hs:∀ r s r',st r=.ok (s,r')→r'.length<r.length):∀ (k:Nat) (r:List Tok) (l:List Sm) (r':List Tok),zN3 st k r=.ok (l,r')→r'.length≤r.length
  | 0,r,l,r',h=>by simp [zN3] at h
  | k+1,r,l,r',h=>by
    simp only [zN3] at h
    split at h
    · cases h;simp
    · cases h1:st r with
      | error f=>rw [h1] at h;cases h
      | ok p=>
        rw [h1] at h;dsimp only at h
        have k1:=hs _ p.1 p.2 h1
        cases h2:zN3 st k p.2 with
        | error f=>rw [h2] at h;cases h
        | ok q=>rw [h2] at h;cases h;have:=gA4 hs k _ q.1 q.2 h2;omega
theorem gH0:∀ (m:Nat) (r:List Tok) (s:Sm) (r':List Tok),zO4 e m r=.ok (s,r')→r'.length<r.length
  | 0,r,s,r',h=>by
    rw [zO7] at h
    refine gL5 (bk:=gN e 0) (fun r l r' h=>?_) h
    simp only [gN] at h
    split at h <;> cases h
  | m+1,r,s,r',h=>by
    rw [zO7] at h
    refine gL5 (bk:=gN e (m+1)) (fun r l r' h=>?_) h
    simp only [gN] at h
    cases h1:ParS.want e [123] r with
    | error f=>rw [h1] at h;cases h
    | ok r1=>
      rw [h1] at h;dsimp only at h
      have:=zP7 h1
      have:=gA4 (fun r s r' h=>gH0 m r s r' h) _ _ _ _ h
      omega
theorem gS0 {k:Nat} {acc l:List Dc} {σ σ1:RS} (ht:zC7 zM4 σ=true) (h:Done (run (zH0 e (declP e) (σ.r.length+1)) ⟨σ.r.tail,σ.f⟩) l σ1):gB5 acc (run (zF1 e (k+1)) σ)=gB5 (acc++l) (run (zF1 e k) σ1):=by
  obtain⟨ho,hi⟩:=zC8 ht
  rw [zD3 (by exact ho)] at h
  rw [zD3 ho]
  simp only [zF1]
  rw [if_pos hi]
  dsimp only at h
  cases hl:zH0 e (declP e) (σ.r.length+1) σ.r.tail with
  | error f=>
    rw [hl] at h
    have hb:¬ σ1.ok:=by show ¬ σ1.f.2=0;rw [h.1];exact h.2
    rw [zF6 hb,h.1];rfl
  | ok p=>
    obtain⟨l1,r1⟩:=p
    rw [hl] at h
    obtain⟨rfl,h2,h3⟩:=h
    rw [zD3 h3,h2]
    dsimp only
    cases zF1 e k r1 with
    | error f=>rfl
    | ok q=>simp [gB5]
theorem kA9 {k:Nat} {σ:RS} (ht:zC7 zM4 σ=false):Done (run (zF1 e (k+1)) σ) [] σ:=by
  by_cases ho:σ.ok
  · rw [zG4 ho] at ht
    rw [zD3 ho]
    simp only [zF1]
    rw [if_neg (by simp [ht])]
    exact⟨rfl,rfl,ho⟩
  · exact .bad ho _
theorem gN9 (r:List Tok):bnd (zH1 e r) (fun t r=>qJ2 (ParS.want e [123] r) fun r1=>bnd (zF1 e (r1.length+1) r1) fun l r2=>bnd (qD e 63 r2) fun b r3=>.ok ((⟨t.text,l,b,(t.at_:Int)⟩:Th),r3))=zM0 e r:=by
  unfold zM0 bnd qJ2
  cases zH1 e r with
  | error f=>rfl
  | ok p=>
    dsimp only
    cases ParS.want e [123] p.2 with
    | error f=>rfl
    | ok r1=>
      dsimp only
      cases zF1 e (r1.length+1) r1 with
      | error f=>rfl
      | ok q=>dsimp only;cases qD e 63 q.2 <;> rfl
theorem gP6 {σ σ2 σ3 σ4:RS} {l:List Dc} {b:List Sm} (h2:σ2=zF3 e [123] (zJ5 e σ)) (hl:Done (run (fun r=>zF1 e (r.length+1) r) σ2) l σ3) (hb:Done (run (qD e 63) σ3) b σ4) :
    Done (run (zM0 e) σ) ⟨zQ σ,l,b,(zW4 σ:Int)⟩ σ4:=by
  refine(Done.namedB (fun t r=>qJ2 (ParS.want e [123] r) fun r1=>bnd (zF1 e (r1.length+1) r1) fun l r2=>bnd (qD e 63 r2) fun b r3=>.ok ((⟨t.text,l,b,(t.at_:Int)⟩:Th),r3)) (fun t=>(⟨t.text,l,b,(t.at_:Int)⟩:Th)) (Done.wantB ?_) (fun h=>by rw [zR4 h,qG9 h])).congr gN9
  rw [← h2]
  exact hl.bindB (fun l r2=>bnd (qD e 63 r2) fun b r3=>.ok ((⟨(here σ.r).text,l,b,((here σ.r).at_:Int)⟩:Th),r3)) (hb.bindB _ (Done.ret _ _))
def qE0 (e k:Nat) (r:List Tok):PR (List Th):=match zG0 e k r with
  | .error f=>.error f
  | .ok (l,r')=>if r'.length=0 then .ok (l,r') else ParS.fail e 2 r'
theorem kX7 {k:Nat} {acc:List Th} {t:Th} {σ σ2:RS} (ho:σ.ok) (hr:σ.r≠[]) (h:Done (run (zM0 e) (zF3 e zJ8 σ)) t σ2):gB5 acc (run (qE0 e (k+1)) σ)=gB5 (acc++[t]) (run (qE0 e k) σ2):=by
  rw [zD3 ho]
  by_cases hi:isT zJ8 σ.r=true
  · have ht:zC7 zJ8 σ=true:=by rw [zG4 ho];exact hi
    have hw:zF3 e zJ8 σ=⟨σ.r.tail,σ.f⟩:=by unfold zF3;rw [if_pos ht]
    rw [hw,zD3 (by exact ho)] at h
    dsimp only at h
    simp only [qE0,zG0]
    rw [if_pos hi]
    cases hl:zM0 e σ.r.tail with
    | error f=>
      rw [hl] at h
      have hb:¬ σ2.ok:=by show ¬ σ2.f.2=0;rw [h.1];exact h.2
      rw [zF6 hb,h.1];rfl
    | ok p=>
      obtain⟨t1,r1⟩:=p
      rw [hl] at h
      obtain⟨rfl,h2,h3⟩:=h
      rw [zD3 h3,h2]
      simp only [qE0]
      cases zG0 e k r1 with
      | error f=>rfl
      | ok q=>
        dsimp only
        split
        · simp [gB5]
        · rfl
  · have ht:zC7 zJ8 σ=false:=by rw [zG4 ho];simpa using hi
    have hw:zF3 e zJ8 σ=zY8 e 2 σ:=by unfold zF3;rw [if_neg (by simp [ht])]
    have hn:¬ (zY8 e 2 σ).ok:=zO8 (by decide)
    rw [hw,zF6 hn] at h
    have hb:¬ σ2.ok:=by show ¬ σ2.f.2=0;rw [h.1];exact h.2
    rw [zF6 hb,h.1,qC1 ho]
    simp only [qE0,zG0]
    rw [if_neg hi]
    have:¬ σ.r.length=0:=fun h=>hr (List.eq_nil_of_length_eq_zero h)
    dsimp only
    rw [if_neg this];rfl
theorem jC0 {k:Nat} {σ:RS} (hr:σ.r=[]):Done (run (qE0 e (k+1)) σ) [] σ:=by
  by_cases ho:σ.ok
  · rw [zD3 ho]
    have hi:isT zJ8 σ.r=false:=by rw [hr];decide
    simp only [qE0,zG0,hi,Bool.false_eq_true,if_false]
    rw [hr]
    exact⟨rfl,hr,ho⟩
  · exact .bad ho _
def qJ0 (e k:Nat) (r:List Tok):PR Pg:=match zM6 e k r with
  | .error f=>.error f
  | .ok p=>.ok (p,[])
def kS7 (sh lk:List Dc) (p:PR Pg):PR Pg:=match p with
  | .error f=>.error f
  | .ok (q,r)=>.ok (⟨sh++q.shared,lk++q.locks,q.threads⟩,r)
theorem kX0 (p:PR Pg):kS7 [] [] p=p:=by unfold kS7;cases p with|error f=>rfl|ok q=>rfl
theorem jC1 {k:Nat} {sh lk l:List Dc} {σ σ1:RS} (ht:zC7 zI9 σ=true) (h:Done (run (zH0 e (initP e) (σ.r.length+1)) ⟨σ.r.tail,σ.f⟩) l σ1):kS7 sh lk (run (qJ0 e (k+1)) σ)=kS7 (sh++l) lk (run (qJ0 e k) σ1):=by
  obtain⟨ho,hi⟩:=zC8 ht
  rw [zD3 (by exact ho)] at h
  rw [zD3 ho]
  simp only [qJ0,zM6]
  rw [if_pos hi]
  dsimp only at h
  cases hl:zH0 e (initP e) (σ.r.length+1) σ.r.tail with
  | error f=>
    rw [hl] at h
    have hb:¬ σ1.ok:=by show ¬ σ1.f.2=0;rw [h.1];exact h.2
    rw [zF6 hb,h.1];rfl
  | ok p=>
    obtain⟨l1,r1⟩:=p
    rw [hl] at h
    obtain⟨rfl,h2,h3⟩:=h
    rw [zD3 h3,h2]
    simp only [qJ0]
    cases zM6 e k r1 with
    | error f=>rfl
    | ok q=>simp [kS7]
theorem jF3 {k:Nat} {sh lk l:List Dc} {σ σ1:RS} (h0:zC7 zI9 σ=false) (ht:zC7 zH7 σ=true) (h:Done (run (zH0 e (declP e) (σ.r.length+1)) ⟨σ.r.tail,σ.f⟩) l σ1):kS7 sh lk (run (qJ0 e (k+1)) σ)=kS7 sh (lk++l) (run (qJ0 e k) σ1):=by
  obtain⟨ho,hi⟩:=zC8 ht
  rw [zG4 ho] at h0
  rw [zD3 (by exact ho)] at h
  rw [zD3 ho]
  simp only [qJ0,zM6]
  rw [if_neg (by simp [h0]),if_pos hi]
  dsimp only at h
  cases hl:zH0 e (declP e) (σ.r.length+1) σ.r.tail with
  | error f=>
    rw [hl] at h
    have hb:¬ σ1.ok:=by show ¬ σ1.f.2=0;rw [h.1];exact h.2
    rw [zF6 hb,h.1];rfl
  | ok p=>
    obtain⟨l1,r1⟩:=p
    rw [hl] at h
    obtain⟨rfl,h2,h3⟩:=h
    rw [zD3 h3,h2]
    simp only [qJ0]
    cases zM6 e k r1 with
    | error f=>rfl
    | ok q=>simp [kS7]
theorem jE8 {k:Nat} {sh lk:List Dc} {l:List Th} {σ σ1:RS} (h0:zC7 zI9 σ=false) (h1:zC7 zH7 σ=false) (h:Done (run (qE0 e (σ.r.length+1)) σ) l σ1):Done (kS7 sh lk (run (qJ0 e (k+1)) σ)) ⟨sh,lk,l⟩ σ1:=by
  by_cases ho:σ.ok
  · rw [zG4 ho] at h0 h1
    rw [zD3 ho] at h ⊢
    simp only [qJ0,zM6]
    rw [if_neg (by simp [h0]),if_neg (by simp [h1])]
    unfold qE0 at h
    cases ht:zG0 e (σ.r.length+1) σ.r with
    | error f=>rw [ht] at h;exact h
    | ok p=>
      obtain⟨l1,r1⟩:=p
      rw [ht] at h
      dsimp only at h ⊢
      by_cases hc:r1.length=0
      · rw [if_pos hc] at h
        rw [if_pos hc]
        obtain⟨rfl,h2,h3⟩:=h
        refine⟨by simp,?_,h3⟩
        rw [h2];exact List.eq_nil_of_length_eq_zero hc
      · rw [if_neg hc] at h
        rw [if_neg hc]
        exact h
  · rw [zF6 ho] at h ⊢;exact h
theorem kX3 {k:Nat} {sh lk:List Dc} {σ:RS} (ho:¬ σ.ok) (p:Pg):Done (kS7 sh lk (run (qJ0 e k) σ)) p σ:=by rw [zF6 ho];exact⟨rfl,ho⟩
theorem kJ6 {σ0 σ:RS} {p:Pg} (h0:σ0.f.2=0) {k:Nat} (h:Done (run (qJ0 e k) σ0) p σ):(∃ f,zM6 e k σ0.r=.error f∧σ.f=f∧f.2≠0)∨(zM6 e k σ0.r=.ok p∧σ.ok):=by
  rw [zD3 h0] at h
  unfold qJ0 at h
  cases hx:zM6 e k σ0.r with
  | error f=>rw [hx] at h;exact .inl ⟨f,rfl,h⟩
  | ok q=>
    rw [hx] at h
    obtain⟨rfl,h2,h3⟩:=h
    exact .inr ⟨rfl,h3⟩
theorem jH7 {r r':List Tok} {x:Dc} (h:declP e r=.ok (x,r')):r'.length<r.length:=by
  unfold declP at h
  cases hn:zH1 e r with
  | error f=>rw [hn] at h;cases h
  | ok p=>rw [hn] at h;cases h;exact qO1 (t:=p.1) (r':=p.2) hn
theorem kN6 {one:List Tok→PR Dc} (h1:∀ r x r',one r=.ok (x,r')→r'.length<r.length):∀ (n:Nat) (r:List Tok) (l:List Dc) (r':List Tok),zH0 e one n r=.ok (l,r')→r'.length≤r.length
  | 0,r,l,r',h=>by simp [zH0] at h
  | n+1,r,l,r',h=>by
    simp only [zH0] at h
    cases ho:one r with
    | error f=>rw [ho] at h;cases h
    | ok p=>
      rw [ho] at h;dsimp only at h
      have hl:=h1 _ p.1 p.2 ho
      split at h
      · cases hq:zH0 e one n p.2.tail with
        | error f=>rw [hq] at h;cases h
        | ok q=>rw [hq] at h;cases h;have:=kN6 h1 n _ q.1 q.2 hq;simp only [List.length_tail] at this;omega
      · cases hq:ParS.want e [59] p.2 with
        | error f=>rw [hq] at h;cases h
        | ok r2=>rw [hq] at h;cases h;have:=zP7 hq;omega
theorem gJ2:∀ (n:Nat) (r:List Tok) (l:List Dc) (r':List Tok),zF1 e n r=.ok (l,r')→r'.length≤r.length
  | 0,r,l,r',h=>by simp [zF1] at h
  | n+1,r,l,r',h=>by
    simp only [zF1] at h
    split at h
    · cases hq:zH0 e (declP e) (r.length+1) r.tail with
      | error f=>rw [hq] at h;cases h
      | ok q=>
        rw [hq] at h;dsimp only at h
        have k1:=kN6 (fun _ _ _ h=>jH7 h) _ _ q.1 q.2 hq
        simp only [List.length_tail] at k1
        cases hz:zF1 e n q.2 with
        | error f=>rw [hz] at h;cases h
        | ok z=>rw [hz] at h;cases h;have:=gJ2 n _ z.1 z.2 hz;omega
    · cases h;exact Nat.le_refl _
theorem kF {r r':List Tok} {t:Th} (h:zM0 e r=.ok (t,r')):r'.length<r.length:=by
  rw [← gN9] at h
  unfold bnd qJ2 at h
  cases hn:zH1 e r with
  | error f=>rw [hn] at h;cases h
  | ok p=>
    rw [hn] at h;dsimp only at h
    have k1:=qO1 (t:=p.1) (r':=p.2) hn
    cases hw:ParS.want e [123] p.2 with
    | error f=>rw [hw] at h;cases h
    | ok r1=>
      rw [hw] at h;dsimp only at h
      have k2:=zP7 hw
      cases hl:zF1 e (r1.length+1) r1 with
      | error f=>rw [hl] at h;cases h
      | ok q=>
        rw [hl] at h;dsimp only at h
        have k3:=gJ2 _ _ q.1 q.2 hl
        cases hb:qD e 63 q.2 with
        | error f=>rw [hb] at h;cases h
        | ok z=>
          rw [hb] at h;cases h
          have:=gA4 (fun r s r' h=>gH0 63 r s r' h) _ _ z.1 z.2 hb
          omega
end
end ParS
namespace Go.Proofs.YtnmhlpnapgojjaaGreatDoor.Pq
open Go.RowKit Sx LexS ParS _root_.Go.Proofs.Tryz
def HD (w:World) (l:List Dc) (v:Value) (w':World):Prop:=∃ o cc Sq,v=.slice o l.length cc∧DcR 63 w' o cc l Sq∧Nw w.heap.size Sq∧l.length≤1048577
def HR (w:World) (x:Ex) (v:Value) (w':World):Prop:=∃ o cc Sq,v=.slice o 1 cc∧ExR 42 w' o cc [x] Sq∧Nw w.heap.size Sq
theorem qB (c:RCtx) (σ:RS) (hr:σ.r <:+ c.ts) (w:World) (hC:RCok c w) (hP:RAt c σ w):Ret Tryz.prog 256 [.pointer (some ⟨c.rb,0,none⟩),.int .i64 1,.int .i64 0] w (kA4 c σ (zN8 c.e 64) w (HE w)):=
 ((kE5 c σ.r.length).2 64 0 rfl 1 (by omega) (by omega) σ hr (fun _=>Nat.le_refl _) w hC hP).mono fun v w' ⟨x,σ',h,hq⟩=>⟨x,σ',h.congr (fun r=>zW5 (zC1 c.e 64) (zI3 c.e 64) r),hq⟩
theorem zM9 (c:RCtx) (σ:RS) (hr:σ.r <:+ c.ts) (w:World) (hC:RCok c w) (hP:RAt c σ w):Ret Tryz.prog 220 [.pointer (some ⟨c.rb,0,none⟩)] w fun v w'=>v=.tuple #[str (zQ σ),.int .i64 (zW4 σ:Int)]∧RAt c (zJ5 c.e σ) w'∧Chg [c.rb] w w':=by
 refine zB [_] func220 rfl ntmps220 rfl ?_;obtain⟨w0,rfl⟩:∃ w0,w0=w:=⟨_,rfl⟩
 have hP':=hP;dsimp only [RAt,zQ4] at hP;have st:=St.of1 [c.rb] hP;have h20:=hC.len;have hl:=zB6 hr;refine a9 ?_;refine zA3 (zA1 [_] rfl rfl call221 rfl (zX c σ hr _ (hC.k1 st.chg) (by exact st.rs 0)) ?_);rintro _ w ⟨rfl,cw⟩;replace st:=st.call0 cw;refine zA3 (zF8 (l:=[_,_,_,_]) st rfl rfl qV118 rfl ?_);intro b4 w hb4 st;refine zA3 (zC4 st 0 [_,_,_,_] qZ118 ?_);intro w st;dsimp only [zA0,wr] at st;refine a6 ?_;refine zA3 (zA1 [_] rfl rfl call140 rfl (zR5 c σ hr _ (hC.k1 st.chg) (by exact st.rs 1)) ?_);rintro _ w ⟨rfl,cw⟩;replace st:=st.call0 cw;refine a1 ?_;refine vmb ?_ ?_;intro hg10;(try simp only [dn] at hg10);have ho:¬ σ.ok:=by simpa using hg10
 have hb:qB5 σ=false:=by simp [qB5,ho]
 refine a10 ?_;refine zA3 (zA1 [_,_] rfl rfl call222 rfl (zW7 c 2 σ hr _ (hC.k1 st.chg) (by exact st.rs 1)) ?_);rintro _ w ⟨rfl,hP1,cw⟩;replace st:=St.prs (b:=c.rb) st 1 rfl cw (.inl (.head _)) hP1;dsimp only [zA0] at st;refine a10 ?_;refine zG3 st (.inl rfl) results220 (.tmp rfl) (.tmp rfl) ?_;refine⟨_,rfl,?_⟩;rw [gN1 hb,gM1 hb];refine⟨rfl,?_,st.chg⟩;unfold zJ5;rw [if_neg (by simp [hb])]
 rotate_left
 focus
  intro hg10;(try simp only [dn] at hg10);have ho:σ.ok:=by simpa using hg10
  refine vy (zC3 rfl qU118 rfl rfl qZ116 rfl) ?_;refine yl st 0 qA116 ?_;refine a4 ?_;refine vif ?_ ?_;intro hc14;(try simp only [dn] at hc14);have hk:¬ (here σ.r).kind=1:=by rw [zK4] at hc14;omega
  have hb:qB5 σ=false:=by simp [qB5,hk]
  refine a3 ?_;refine zA3 (zA1 [_,_] rfl rfl call222 rfl (zW7 c 2 σ hr _ (hC.k1 st.chg) (by exact st.rs 1)) ?_);rintro _ w ⟨rfl,hP1,cw⟩;replace st:=St.prs (b:=c.rb) st 1 rfl cw (.inl (.head _)) hP1;dsimp only [zA0] at st;refine a10 ?_;refine zG3 st (.inl rfl) results220 (.tmp rfl) (.tmp rfl) ?_;refine⟨_,rfl,?_⟩;rw [gN1 hb,gM1 hb];refine⟨rfl,?_,st.chg⟩;unfold zJ5;rw [if_neg (by simp [hb])]
  rotate_left
  intro hc14;(try simp only [dn] at hc14);have hk:(here σ.r).kind=1:=by rw [zK4] at hc14;omega
  have hb:qB5 σ=true:=by simp [qB5,hk,ho]
  have hne:=zN7 hk (by decide);have htl:=zC2 hne;have ht2:σ.r.tail.length=σ.r.length - 1:=List.length_tail;refine a6 ?_;refine yfz 1 qU168 qZ3 ?_;refine yl st 1 qA3 ?_;refine vy (yin ((c.ts.length - σ.r.tail.length:Nat):Int)) ?_;refine a1 ?_;refine yfz 1 qU168 qZ3 ?_;refine zA3 (est st 1 qZ3 ?_);intro w st;dsimp only [zA0,wr] at st;refine a3 ?_;refine qJ5 Tryz.mixed [Yt 0,Yt 1,Yt 2,Yt 3,Yt 4,Yt 5] st ?_;clear st;intro w st hS;refine pfz hS 1 qU118 qZ9 ?_;refine pld hS 0 qA9 ?_;refine pfz hS 3 qU118 qZ3 ?_;refine pld hS 0 qA3 ?_;(iterate 2 refine zA2 rfl rfl rfl hS (fun w st=>qL1 rfl) ?_);refine zC6 (zA6 (zA8 ?_));refine zG3 st (.inl rfl) results220 (.tmp rfl) (.tmp rfl) ?_;refine⟨_,rfl,?_⟩;rw [zR4 hb,qG9 hb];refine⟨by rw [zQ6 hne],?_,st.chg⟩;unfold zJ5;rw [if_pos hb]
 all_goals
  exact(by exact st.rs 1)
theorem gE1 (n:Nat) (c:RCtx) (σ:RS) (hr:σ.r <:+ c.ts) (w:World) (hC:RCok c w) (hP:RAt c σ w) (hn:σ.r.length<n):Ret Tryz.prog 177 [.pointer (some ⟨c.rb,0,none⟩)] w (kA4 c σ (zH0 c.e (declP c.e) n) w (HD w)):=by
 refine zB [_] func177 rfl ntmps177 rfl ?_;obtain⟨w0,rfl⟩:∃ w0,w0=w:=⟨_,rfl⟩
 have hP':=hP;dsimp only [RAt,zQ4] at hP;have st:=St.of1 [c.rb] hP;have h20:=hC.len;have hl:=zB6 hr;replace st:=st.ownNil 63 3;refine a12 ?_;refine zC (w0:=w0) (M:=[c.rb]) (fun (y:List Dc×RS×Nat×Option Addr×Nat)=>[(0,.pointer (some ⟨c.rb,0,none⟩)),(3,.slice y.2.2.2.1 y.1.length y.2.2.2.2)]) (fun (y:List Dc×RS×Nat×Option Addr×Nat)=>[.own (.slice y.2.2.2.1 y.1.length y.2.2.2.2) 63 3 y.1.length (y.1.flatMap dcL),.blk c.rb (.cells (zQ4 c y.2.1).toArray c.T (0,0))]) (fun (y:List Dc×RS×Nat×Option Addr×Nat) _=>y.2.1.r <:+ σ.r∧y.1.length+y.2.1.r.length≤σ.r.length∧y.2.1.r.length<y.2.2.1∧run (zH0 c.e (declP c.e) n) σ=gB5 y.1 (run (zH0 c.e (declP c.e) y.2.2.1) y.2.1)) (fun (y:List Dc×RS×Nat×Option Addr×Nat)=>y.2.1.r.length) ([],σ,n,none,0) ⟨rfl,rfl,trivial⟩ st ⟨List.suffix_refl _,by simp,hn,(qM5 _).symm⟩ ?_;clear st;rintro ⟨acc,σ1,k,o,cc⟩ w ⟨hsf1,hl1,hk1,hG⟩ st;dsimp only at hsf1 hl1 hk1 hG st;have hr1:=hsf1.trans hr;obtain⟨k,rfl⟩:∃ j,k=j+1:=⟨k - 1,by omega⟩
 have h40:=zB6 hr1;refine a4 ?_;refine zA3 (zA1 [_] rfl rfl call140 rfl (zR5 c σ1 hr1 _ (hC.k1 st.chg) (by exact st.rs 1)) ?_);rintro _ w ⟨rfl,cw⟩;replace st:=st.call0 cw;refine a2 ?_;refine vif ?_ ?_;intro hc7;(try simp only [dn] at hc7);have ho:σ1.ok:=by simpa using hc7
 refine a6 ?_;refine zA3 (zA1 [_] rfl rfl call220 rfl (zM9 c σ1 hr1 _ (hC.k1 st.chg) (by exact st.rs 1)) ?_);rintro _ w ⟨rfl,hP1,cw⟩;replace st:=St.prs (b:=c.rb) st 1 rfl cw (.inl (.head _)) hP1;dsimp only [zA0] at st;have hd:=kO9 (e:=c.e) σ1;have hsf2:(zJ5 c.e σ1).r <:+ σ1.r:=qB4;have hr2:=hsf2.trans hr1;have h41:=zB6 hsf2;refine a12 ?_;refine vy (ybd (.agg #[_,_,_]) [(0,_),(2,_)]) ?_;refine zA3 (zI4 (l:=[_,_,_]) st rfl rfl rfl rfl qU23 qZ63 rfl rfl rfl qV63 ?_);intro b17 w hb17 st;refine zA3 (qE3 (bytes:=32) st 1 0 rfl rfl rfl rfl rfl rfl qU23 Tryz.info63 rfl rfl rfl rfl rfl (by simp) rfl rfl (by unfold maxLen;omega) (by omega) ?_);intro oaQ capQ w st;dsimp only [zA0] at st;replace st:=st.pick [1,2] rfl (by decide);refine a6 ?_;refine zA3 (zA1 [_,_] rfl rfl call175 rfl (zH2 c [44] (zJ5 c.e σ1) hr2 _ (hC.k1 st.chg) (by exact st.rs 1)) ?_);rintro _ w ⟨rfl,hP1,cw⟩;replace st:=St.prs (b:=c.rb) st 1 rfl cw (.inl (.head _)) hP1;dsimp only [zA0] at st;refine a3 ?_;refine vif ?_ ?_;intro hc21;(try simp only [dn] at hc21);have hF:zC7 [44] (zJ5 c.e σ1)=false:=by simpa using hc21
 rw [zG9 hF] at st;refine a8 ?_;refine zA3 (zA1 [_,_] rfl rfl call223 rfl (zG2 c [59] (zJ5 c.e σ1) hr2 _ (hC.k1 st.chg) (by exact st.rs 1)) ?_);rintro _ w ⟨rfl,hP1,cw⟩;replace st:=St.prs (b:=c.rb) st 1 rfl cw (.inl (.head _)) hP1;dsimp only [zA0] at st;refine a9 ?_;refine vr1 st results177 ?_;have hown:=st.ownNw (i:=0) rfl;exact⟨acc++[⟨zQ σ1,0,(zW4 σ1:Int)⟩],zF3 c.e [59] (zJ5 c.e σ1),by rw [hG];exact(gN6 hd hF).add,wantR_suf.trans (hsf2.trans hsf1),(by exact st.rs 1),st.chg,oaQ,capQ,obk oaQ,by simp,⟨by simpa [dcL] using hown.1,rfl⟩,hown.2,by simp;omega⟩;intro hc21;(try simp only [dn] at hc21);have hT:zC7 [44] (zJ5 c.e σ1)=true:=by simpa using hc21
 have htl:=zC2 (zI5 (zC8 hT).2);rw [zH6 hT] at st;refine a2 ?_;refine zA7 (acc++[⟨zQ σ1,0,(zW4 σ1:Int)⟩],⟨(zJ5 c.e σ1).r.tail,(zJ5 c.e σ1).f⟩,k,oaQ,capQ)  ⟨rfl,by simp [find,put],trivial⟩ (by simpa [dcL] using st) ?_ ?_;exact⟨(List.tail_suffix _).trans (hsf2.trans hsf1),by simp;simp at htl;omega,by dsimp only;omega,hG.trans (gL0 hd hT)⟩;dsimp only;omega;intro hc7;(try simp only [dn] at hc7);have ho:¬ σ1.ok:=by simpa using hc7
 refine a8 ?_;refine zA3 (zA1 [_,_] rfl rfl call223 rfl (zG2 c [59] σ1 hr1 _ (hC.k1 st.chg) (by exact st.rs 1)) ?_);rintro _ w ⟨rfl,hP1,cw⟩;replace st:=St.prs (b:=c.rb) st 1 rfl cw (.inl (.head _)) hP1;dsimp only [zA0] at st;refine a9 ?_;refine vr1 st results177 ?_;have hown:=st.ownNw (i:=0) rfl;exact⟨acc,zF3 c.e [59] σ1,by rw [hG];exact(gY6 ho).add_nil,wantR_suf.trans hsf1,(by exact st.rs 1),st.chg,o,cc,obk o,rfl,⟨hown.1,rfl⟩,hown.2,by have:=zB6 hr;omega⟩
set_option maxHeartbeats 1000000 in
theorem gS7 (n:Nat) (c:RCtx) (σ:RS) (hr:σ.r <:+ c.ts) (w:World) (hC:RCok c w) (hP:RAt c σ w) (hn:σ.r.length<n):Ret Tryz.prog 176 [.pointer (some ⟨c.rb,0,none⟩)] w (kA4 c σ (zH0 c.e (initP c.e) n) w (HD w)):=by
 refine zB [_] func176 rfl ntmps176 rfl ?_;obtain⟨w0,rfl⟩:∃ w0,w0=w:=⟨_,rfl⟩
 have hP':=hP;dsimp only [RAt,zQ4] at hP;have st:=St.of1 [c.rb] hP;have h20:=hC.len;have hl:=zB6 hr;replace st:=st.ownNil 63 3;refine a12 ?_;refine zC (w0:=w0) (M:=[c.rb]) (fun (y:List Dc×RS×Nat×Option Addr×Nat)=>[(0,.pointer (some ⟨c.rb,0,none⟩)),(3,.slice y.2.2.2.1 y.1.length y.2.2.2.2)]) (fun (y:List Dc×RS×Nat×Option Addr×Nat)=>[.own (.slice y.2.2.2.1 y.1.length y.2.2.2.2) 63 3 y.1.length (y.1.flatMap dcL),.blk c.rb (.cells (zQ4 c y.2.1).toArray c.T (0,0))]) (fun (y:List Dc×RS×Nat×Option Addr×Nat) _=>y.2.1.r <:+ σ.r∧y.1.length+y.2.1.r.length≤σ.r.length∧y.2.1.r.length<y.2.2.1∧run (zH0 c.e (initP c.e) n) σ=gB5 y.1 (run (zH0 c.e (initP c.e) y.2.2.1) y.2.1)) (fun (y:List Dc×RS×Nat×Option Addr×Nat)=>y.2.1.r.length) ([],σ,n,none,0) ⟨rfl,rfl,trivial⟩ st ⟨List.suffix_refl _,by simp,hn,(qM5 _).symm⟩ ?_;clear st;rintro ⟨acc,σ1,k,o,cc⟩ w ⟨hsf1,hl1,hk1,hG⟩ st;dsimp only at hsf1 hl1 hk1 hG st;have hr1:=hsf1.trans hr;obtain⟨k,rfl⟩:∃ j,k=j+1:=⟨k - 1,by omega⟩
 have h40:=zB6 hr1;refine a4 ?_;refine zA3 (zA1 [_] rfl rfl call140 rfl (zR5 c σ1 hr1 _ (hC.k1 st.chg) (by exact st.rs 1)) ?_);rintro _ w ⟨rfl,cw⟩;replace st:=st.call0 cw;refine a2 ?_;refine vif ?_ ?_;intro hc10;(try simp only [dn] at hc10);have ho:σ1.ok:=by simpa using hc10
 refine a6 ?_;refine zA3 (zA1 [_] rfl rfl call220 rfl (zM9 c σ1 hr1 _ (hC.k1 st.chg) (by exact st.rs 1)) ?_);rintro _ w ⟨rfl,hP1,cw⟩;replace st:=St.prs (b:=c.rb) st 1 rfl cw (.inl (.head _)) hP1;dsimp only [zA0] at st;have hsf2:(zJ5 c.e σ1).r <:+ σ1.r:=qB4;have hr2:=hsf2.trans hr1;have h41:=zB6 hsf2;obtain⟨σN,hσN⟩:∃ σN,zJ5 c.e σ1=σN:=⟨_,rfl⟩
 rw [hσN] at hsf2 hr2 h41 st;refine a11 ?_;refine vy (ybd (.agg #[_,_,_]) [(0,_),(2,_)]) ?_;refine zA3 (zF8 (l:=[_,_,_]) st rfl rfl qV63 rfl ?_);intro b6 w hb6 st;refine zA3 (zC4 st 0 [_,_,_] qZ63 ?_);intro w st;dsimp only [zA0,wr] at st;refine a2 ?_;refine zL2 (w0:=w0) (M:=[c.rb]) (fun (x:Dc×RS)=>[(0,.pointer (some ⟨c.rb,0,none⟩)),(3,.slice o acc.length cc),(6,.pointer (some ⟨b6,0,none⟩))]) (fun (x:Dc×RS)=>[.blk b6 (.cells (dcL x.1).toArray 63 (0,0)),.own (.slice o acc.length cc) 63 3 acc.length (acc.flatMap dcL),.blk c.rb (.cells (zQ4 c x.2).toArray c.T (0,0))]) (fun (x:Dc×RS) _=>Done (run (initP c.e) σ1) x.1 x.2∧x.2.r <:+ σ1.r∧x.2.r.length≤σ1.r.length) ?_ ?_;refine a3 ?_;refine zA3 (zA1 [_,_] rfl rfl call175 rfl (zH2 c [61] σN hr2 _ (hC.k1 st.chg) (by exact st.rs 2)) ?_);rintro _ w ⟨rfl,hP1,cw⟩;replace st:=St.prs (b:=c.rb) st 2 rfl cw (.inl (.head _)) hP1;dsimp only [zA0] at st;refine a2 ?_;refine vif ?_ ?_;intro hc20;(try simp only [dn] at hc20);have hT61:zC7 [61] σN=true:=hc20;have hoN:=(zC8 hT61).1;have htl61:=zC2 (zI5 (zC8 hT61).2);rw [zH6 hT61] at st;obtain⟨σA,hσA⟩:∃ σA,(RS.mk σN.r.tail σN.f)=σA:=⟨_,rfl⟩
 have hrA:σA.r <:+ c.ts:=by rw [← hσA];exact(List.tail_suffix _).trans hr2
 have hlA:σA.r.length<σN.r.length:=by rw [← hσA];exact htl61
 have hsfA:σA.r <:+ σ1.r:=by rw [← hσA];exact(List.tail_suffix _).trans hsf2
 have hoA:σA.ok:=by rw [← hσA];exact hoN
 rw [hσA] at st;refine a3 ?_;refine zA3 (zA1 [_,_] rfl rfl call175 rfl (zH2 c [45] σA hrA _ (hC.k1 st.chg) (by exact st.rs 2)) ?_);rintro _ w ⟨rfl,hP1,cw⟩;replace st:=St.prs (b:=c.rb) st 2 rfl cw (.inl (.head _)) hP1;dsimp only [zA0] at st;obtain⟨σB,hσB⟩:∃ σB,gB8 [45] σA=σB:=⟨_,rfl⟩
 have hsfB:σB.r <:+ σA.r:=by rw [← hσB];exact kK3
 have hrB:=hsfB.trans hrA;have hlB:=zB6 hsfB;have hoB:σB.ok:=by rw [← hσB];unfold gB8;split <;> exact hoA
 obtain⟨mB,hmB⟩:∃ mB,zC7 [45] σA=mB:=⟨_,rfl⟩
 rw [hmB];rw [hσB] at st;have hIN:∀ σ4,((here σB.r).kind=3∧σ4=⟨σB.r.tail,σB.f⟩)∨((here σB.r).kind≠3∧σ4=zY8 c.e 2 σB)→Done (run (initP c.e) σ1) ⟨zQ σ1,if mB=true then -((here σB.r).word:Int) else ((here σB.r).word:Int),(zW4 σ1:Int)⟩ σ4:=fun σ4 h4=>kJ4 (by rw [hσN];exact hT61) (by rw [hσN,hσA];exact hmB) (by rw [hσN,hσA];exact hσB.symm) h4
 refine a6 ?_;refine zA3 (zA1 [_] rfl rfl call221 rfl (zX c σB hrB _ (hC.k1 st.chg) (by exact st.rs 2)) ?_);rintro _ w ⟨rfl,cw⟩;replace st:=st.call0 cw;have hwd:=kI5 hC.wd hrB;refine zA3 (zF8 (l:=[_,_,_,_]) st rfl rfl qV118 rfl ?_);intro b8 w hb8 st;refine zA3 (zC4 st 0 [_,_,_,_] qZ118 ?_);intro w st;dsimp only [zA0,wr] at st;refine a5 ?_;refine vy (zC3 rfl qU118 rfl rfl qZ116 rfl) ?_;refine yl st 0 qA116 ?_;refine a3 ?_;refine vif ?_ ?_;intro hc27;(try simp only [dn] at hc27);have hk3:¬ (here σB.r).kind=3:=by rw [zK4] at hc27;omega
 refine a2 ?_;refine zA3 (zA1 [_,_] rfl rfl call222 rfl (zW7 c 2 σB hrB _ (hC.k1 st.chg) (by exact st.rs 3)) ?_);rintro _ w ⟨rfl,hP1,cw⟩;replace st:=St.prs (b:=c.rb) st 3 rfl cw (.inl (.head _)) hP1;dsimp only [zA0] at st;refine a4 ?_;refine yfz 2 qU118 qZ2 ?_;refine yl st 0 qA2 ?_;refine yfz 1 qU63 qZ2 ?_;refine zA3 (est st 1 qZ2 ?_);intro w st;dsimp only [zA0,wr] at st;refine a7 ?_;refine vif ?_ ?_;intro hc42;(try simp only [dn] at hc42);refine a1 ?_;refine yfz 2 qU118 qZ2 ?_;refine yl st 0 qA2 ?_;refine vy (qF4 rfl rfl (Int.zero_sub _) (by rw [zQ7];omega) (by rw [zQ7];omega)) ?_;refine yfz 1 qU63 qZ2 ?_;refine zA3 (est st 1 qZ2 ?_);intro w st;dsimp only [zA0,wr] at st;refine a1 ?_;refine zB8 (⟨zQ σ1,-((here σB.r).word:Int),(zW4 σ1:Int)⟩,zY8 c.e 2 σB) ⟨rfl,rfl,rfl,trivial⟩ (by rw [zQ7] at st;exact st.pick [1,2,3] rfl (by decide)) ?_;have h:=hIN _ (.inr ⟨hk3,rfl⟩);rw [hc42] at h;exact⟨h,by rw [zU5];exact hsfB.trans hsfA,by rw [zU5];omega⟩;intro hc42;(try simp only [dn] at hc42);refine a1 ?_;refine zB8 (⟨zQ σ1,((here σB.r).word:Int),(zW4 σ1:Int)⟩,zY8 c.e 2 σB) ⟨rfl,rfl,rfl,trivial⟩ (by rw [zQ7] at st;exact st.pick [1,2,3] rfl (by decide)) ?_;have h:=hIN _ (.inr ⟨hk3,rfl⟩);rw [hc42] at h;exact⟨h,by rw [zU5];exact hsfB.trans hsfA,by rw [zU5];omega⟩;intro hc27;(try simp only [dn] at hc27);have hk3:(here σB.r).kind=3:=by rw [zK4] at hc27;omega
 have hne:=zN7 hk3 (by decide);have htl:=zC2 hne;have ht2:σB.r.tail.length=σB.r.length - 1:=List.length_tail;have hlts:=zB6 hrB;refine a3 ?_;refine zA3 (zA1 [_] rfl rfl call140 rfl (zR5 c σB hrB _ (hC.k1 st.chg) (by exact st.rs 3)) ?_);rintro _ w ⟨rfl,cw⟩;replace st:=st.call0 cw;refine a2 ?_;refine vif ?_ ?_;intro hc31;(try simp only [dn] at hc31);refine a3 ?_;refine yfz 1 qU168 qZ3 ?_;refine yl st 3 qA3 ?_;refine vy (yin ((c.ts.length - σB.r.tail.length:Nat):Int)) ?_;refine a1 ?_;refine yfz 1 qU168 qZ3 ?_;refine zA3 (est st 3 qZ3 ?_);intro w st;dsimp only [zA0,wr] at st;refine a4 ?_;refine yfz 2 qU118 qZ2 ?_;refine yl st 0 qA2 ?_;refine yfz 1 qU63 qZ2 ?_;refine zA3 (est st 1 qZ2 ?_);intro w st;dsimp only [zA0,wr] at st;refine a7 ?_;refine vif ?_ ?_;intro hc42;(try simp only [dn] at hc42);refine a1 ?_;refine yfz 2 qU118 qZ2 ?_;refine yl st 0 qA2 ?_;refine vy (qF4 rfl rfl (Int.zero_sub _) (by rw [zQ7];omega) (by rw [zQ7];omega)) ?_;refine yfz 1 qU63 qZ2 ?_;refine zA3 (est st 1 qZ2 ?_);intro w st;dsimp only [zA0,wr] at st;refine a1 ?_;refine zB8 (⟨zQ σ1,-((here σB.r).word:Int),(zW4 σ1:Int)⟩,⟨σB.r.tail,σB.f⟩) ⟨rfl,rfl,rfl,trivial⟩ (by rw [zQ7] at st;exact st.pick [1,2,3] rfl (by decide)) ?_;have h:=hIN _ (.inl ⟨hk3,rfl⟩);rw [hc42] at h;exact⟨h,(List.tail_suffix _).trans (hsfB.trans hsfA),by dsimp only;omega⟩;intro hc42;(try simp only [dn] at hc42);refine a1 ?_;refine zB8 (⟨zQ σ1,((here σB.r).word:Int),(zW4 σ1:Int)⟩,⟨σB.r.tail,σB.f⟩) ⟨rfl,rfl,rfl,trivial⟩ (by rw [zQ7] at st;exact st.pick [1,2,3] rfl (by decide)) ?_;have h:=hIN _ (.inl ⟨hk3,rfl⟩);rw [hc42] at h;exact⟨h,(List.tail_suffix _).trans (hsfB.trans hsfA),by dsimp only;omega⟩;intro hc31;exfalso;simp [hoB] at hc31;intro hc20;(try simp only [dn] at hc20);have hF61:zC7 [61] σN=false:=hc20;rw [zG9 hF61] at st;refine a1 ?_;refine zB8 (⟨zQ σ1,0,(zW4 σ1:Int)⟩,σN) ⟨rfl,rfl,rfl,trivial⟩ (st.pick [0,1,2] rfl (by decide)) ?_;have h:=kM (e:=c.e) (σ:=σ1) (by rw [hσN];exact hF61);rw [hσN] at h;exact⟨h,hsf2,h41⟩;clear st;rintro ⟨d,σ2⟩ w ⟨hd,hsf3,hl3⟩ st;dsimp only at hd hsf3 hl3 st;have hr3:=hsf3.trans hr1;refine a3 ?_;refine yla st 0 [_,_,_] qA63 qZ63 ?_;refine zA3 (zI4 (l:=[_,_,_]) st rfl rfl rfl rfl qU23 qZ63 rfl rfl rfl qV63 ?_);intro b49 w hb49 st;refine zA3 (qE3 (bytes:=32) st 2 0 rfl rfl rfl rfl rfl rfl qU23 Tryz.info63 rfl rfl rfl rfl rfl (by simp) rfl rfl (by unfold maxLen;omega) (by omega) ?_);intro oaQ capQ w st;dsimp only [zA0] at st;replace st:=st.pick [2,3] rfl (by decide);refine a6 ?_;refine zA3 (zA1 [_,_] rfl rfl call175 rfl (zH2 c [44] σ2 hr3 _ (hC.k1 st.chg) (by exact st.rs 1)) ?_);rintro _ w ⟨rfl,hP1,cw⟩
 replace st:=St.prs (b:=c.rb) st 1 rfl cw (.inl (.head _)) hP1;dsimp only [zA0] at st;refine a3 ?_;refine vif ?_ ?_;intro hc53;(try simp only [dn] at hc53);have hF:zC7 [44] σ2=false:=by simpa using hc53
 rw [zG9 hF] at st;refine a8 ?_;refine zA3 (zA1 [_,_] rfl rfl call223 rfl (zG2 c [59] σ2 hr3 _ (hC.k1 st.chg) (by exact st.rs 1)) ?_);rintro _ w ⟨rfl,hP1,cw⟩;replace st:=St.prs (b:=c.rb) st 1 rfl cw (.inl (.head _)) hP1;dsimp only [zA0] at st;refine a9 ?_;refine vr1 st results176 ?_;have hown:=st.ownNw (i:=0) rfl;exact⟨acc++[d],zF3 c.e [59] σ2,by rw [hG];exact(gN6 hd hF).add,wantR_suf.trans (hsf3.trans hsf1),(by exact st.rs 1),st.chg,oaQ,capQ,obk oaQ,by simp,⟨by simpa [dcL] using hown.1,rfl⟩,hown.2,by simp;omega⟩;intro hc53;(try simp only [dn] at hc53);have hT:zC7 [44] σ2=true:=by simpa using hc53
 have htl:=zC2 (zI5 (zC8 hT).2);rw [zH6 hT] at st;refine a2 ?_;refine zA7 (acc++[d],⟨σ2.r.tail,σ2.f⟩,k,oaQ,capQ)  ⟨rfl,by simp [find,put],trivial⟩ (by simpa [dcL] using st) ?_ ?_;exact⟨(List.tail_suffix _).trans (hsf3.trans hsf1),by simp;simp at htl;omega,by dsimp only;omega,hG.trans (gL0 hd hT)⟩;dsimp only;omega;intro hc10;(try simp only [dn] at hc10);have ho:¬ σ1.ok:=by simpa using hc10
 refine a8 ?_;refine zA3 (zA1 [_,_] rfl rfl call223 rfl (zG2 c [59] σ1 hr1 _ (hC.k1 st.chg) (by exact st.rs 1)) ?_);rintro _ w ⟨rfl,hP1,cw⟩;replace st:=St.prs (b:=c.rb) st 1 rfl cw (.inl (.head _)) hP1;dsimp only [zA0] at st;refine a9 ?_;refine vr1 st results176 ?_;have hown:=st.ownNw (i:=0) rfl;exact⟨acc,zF3 c.e [59] σ1,by rw [hG];exact(gY6 ho).add_nil,wantR_suf.trans hsf1,(by exact st.rs 1),st.chg,o,cc,obk o,rfl,⟨hown.1,rfl⟩,hown.2,by have:=zB6 hr;omega⟩
theorem gE4 (c:RCtx) (σ:RS) (hr:σ.r <:+ c.ts) (w:World) (hC:RCok c w) (hP:RAt c σ w):Ret Tryz.prog 254 [.pointer (some ⟨c.rb,0,none⟩)] w (kA4 c σ (condP c.e) w (HR w)):=by
 refine zB [_] func254 rfl ntmps254 rfl ?_;obtain⟨w0,rfl⟩:∃ w0,w0=w:=⟨_,rfl⟩
 have hP':=hP;dsimp only [RAt,zQ4] at hP;have st:=St.of1 [c.rb] hP;have h20:=hC.len;have hl:=zB6 hr;refine a8 ?_;refine zA3 (zA1 [_,_] rfl rfl call223 rfl (zG2 c [40] σ hr _ (hC.k1 st.chg) (by exact st.rs 0)) ?_);rintro _ w ⟨rfl,hP1,cw⟩;replace st:=St.prs (b:=c.rb) st 0 rfl cw (.inl (.head _)) hP1;have hsf1:(zF3 c.e [40] σ).r <:+ σ.r:=wantR_suf;have hr1:=hsf1.trans hr;refine a5 ?_;refine zA3 (zA1 [_,_,_] rfl rfl call256 rfl (qB c (zF3 c.e [40] σ) hr1 _ (hC.k1 st.chg) (by exact st.rs 0)) ?_);rintro _ w ⟨x,σ2,hD,hsf,hP1,cw,ox,cx,Sx,rfl,hQ,hN⟩;have hNSx:=hN.le st.chg.size;replace st:=St.prsT (b:=c.rb) st 0 rfl cw (.inl (.head _)) hP1 (zF9 hQ) hN.2;have hr2:=hsf.trans hr1;refine zA3 (zF8 (l:=[_,_,_,_,_,_]) st rfl rfl qV42 rfl ?_);intro b3 w hb3 st;refine zA3 (zC4 st 0 [_,_,_,_,_,_] qZ42 ?_);intro w st;refine a5 ?_;refine zA3 (zA1 [_,_] rfl rfl call223 rfl (zG2 c [41] σ2 hr2 _ (hC.k1 st.chg) (by exact st.rs 2)) ?_);rintro _ w ⟨rfl,hP1,cw⟩;replace st:=St.prs (b:=c.rb) st 2 rfl cw (.inl (.head _)) hP1;refine a4 ?_;refine yla st 0 [_,_,_,_,_,_] qA42 qZ42 ?_;refine zA3 (zI4 (l:=[_,_,_,_,_,_]) st rfl rfl rfl rfl qU40 qZ42 rfl rfl rfl qV42 ?_);intro b11 w hb11 st;refine a4 ?_;refine vr1 st results254 ?_;exact⟨x,zF3 c.e [41] σ2,kI6 hD,wantR_suf.trans (hsf.trans hsf1),(by exact st.rs 3),st.chg,some ⟨b11,0,none⟩,1,b11::Sx,rfl,qE7 (st.res (i:=0) rfl) (by exact(st.res (i:=2) rfl).1),Nw.app (S:=[b11]) ⟨by simp,by simpa using hb11⟩ hNSx (fun b hb hb'=>by exact st.ne (i:=0) (j:=2) (by decide) rfl rfl b hb hb')⟩
def SMR (c:RCtx) (n:Nat):Prop:=∀ (m d:Nat),d+m=64→∀ (σ:RS),σ.r <:+ c.ts→σ.ok→σ.r.length≤n→∀ (w:World),RCok c w→RAt c σ w→Ret Tryz.prog 242 [.pointer (some ⟨c.rb,0,none⟩),.int .i64 (d:Int)] w (kA4 c σ (zO4 c.e m) w (HS w))
def SSR (c:RCtx) (n:Nat):Prop:=∀ (m d:Nat),d≤65→∀ (σ:RS),σ.r <:+ c.ts→(σ.ok→d+m=64∧σ.r.length≤n)→∀ (w:World),RCok c w→RAt c σ w→Ret Tryz.prog 224 [.pointer (some ⟨c.rb,0,none⟩),.int .i64 (d:Int)] w (kA4 c σ (qD c.e m) w (HB w))
def BKR (c:RCtx) (n:Nat):Prop:=∀ (m d:Nat),d+m=64→∀ (σ:RS),σ.r <:+ c.ts→(σ.ok→σ.r.length≤n)→∀ (w:World),RCok c w→RAt c σ w→Ret Tryz.prog 255 [.pointer (some ⟨c.rb,0,none⟩),.int .i64 (d:Int)] w (kA4 c σ (gN c.e m) w (HB w))
def RS.mu (σ:RS):Nat:=if σ.ok then σ.r.length+1 else 0
set_option maxHeartbeats 1000000 in
theorem kQ4 (c:RCtx) (n:Nat) (hS:SMR c n):SSR c n:=by
 intro m d hd σ hr hn w hC hP;refine zB [_,_] func224 rfl ntmps224 rfl ?_;obtain⟨w0,rfl⟩:∃ w0,w0=w:=⟨_,rfl⟩
 have hP':=hP;dsimp only [RAt,zQ4] at hP;have st:=St.of1 [c.rb] hP;have h20:=hC.len;have hl:=zB6 hr;replace st:=St.pushR (r:=.tree [] (fun w=>SmSs 42 67 w [] [] [])) st (Chg.refl _ _) (qI0 (by simp [SmSs])) (by simp [Res.at?]);replace st:=st.ownNil 67 7;refine a12 ?_;refine zC (w0:=w0) (M:=[c.rb]) (fun (y:(List Sm×RS×Nat×Option Addr×Nat×List Value×List Nat))=>[(0,.pointer (some ⟨c.rb,0,none⟩)),(1,.int .i64 (d:Int)),(5,.slice y.2.2.2.1 y.1.length y.2.2.2.2.1)]) (fun (y:(List Sm×RS×Nat×Option Addr×Nat×List Value×List Nat))=>[.own (.slice y.2.2.2.1 y.1.length y.2.2.2.2.1) 67 7 y.1.length y.2.2.2.2.2.1,.tree y.2.2.2.2.2.2 (fun w=>SmSs 42 67 w y.1 y.2.2.2.2.2.1 y.2.2.2.2.2.2),.blk c.rb (.cells (zQ4 c y.2.1).toArray c.T (0,0))]) (fun (y:(List Sm×RS×Nat×Option Addr×Nat×List Value×List Nat)) _=>y.2.1.r <:+ σ.r∧(y.2.1.ok→σ.ok∧y.1.length+y.2.1.r.length≤σ.r.length∧y.2.1.r.length<y.2.2.1)∧Nw w0.heap.size y.2.2.2.2.2.2∧run (qD c.e m) σ=gB5 y.1 (run (zN3 (zO4 c.e m) y.2.2.1) y.2.1)) (fun (y:(List Sm×RS×Nat×Option Addr×Nat×List Value×List Nat))=>RS.mu y.2.1) ([],σ,σ.r.length+1,none,0,[],[]) ⟨rfl,rfl,rfl,trivial⟩ st ⟨List.suffix_refl _,fun ho=>⟨ho,by simp,by simp⟩,Nw.nil,(qM5 _).symm⟩ ?_;clear st;rintro ⟨acc,σ1,k,oq,cq,xs,Sq⟩ w ⟨hsf1,hl1,hSq,hG⟩ st;dsimp only at hsf1 hl1 hSq hG st;have hr1:=hsf1.trans hr;have h40:=zB6 hr1;refine a4 ?_;refine zA3 (zA1 [_] rfl rfl call140 rfl (zR5 c σ1 hr1 _ (hC.k1 st.chg) (by exact st.rs 2)) ?_);rintro _ w ⟨rfl,cw⟩;replace st:=st.call0 cw;refine vmb ?_ ?_;intro hg8;have ho:σ1.ok:=by simpa using hg8
 obtain⟨ho0,hl2,hk1⟩:=hl1 ho;obtain⟨hdm,hn0⟩:=hn ho0;obtain⟨k,rfl⟩:∃ j,k=j+1:=⟨k - 1,by omega⟩
 refine a1 ?_;refine zA3 (zA1 [_,_] rfl rfl call175 rfl (zH2 c [125] σ1 hr1 _ (hC.k1 st.chg) (by exact st.rs 2)) ?_);rintro _ w ⟨rfl,hP1,cw⟩;replace st:=St.prs (b:=c.rb) st 2 rfl cw (.inl (.head _)) hP1;refine a4 ?_;refine vif ?_ ?_;intro hc12;have hF:zC7 [125] σ1=false:=by simpa using hc12
 rw [zG9 hF] at st;refine a7 ?_;refine zA3 (zA1 [_,_] rfl rfl call242 rfl (hS m d hdm σ1 hr1 ho (by omega) _ (hC.k1 st.chg) (by exact st.rs 2)) ?_);rintro _ w ⟨s,σ2,hD,hsf,hP1,cw,oe,ob,ol,ce,cb,cl,Ss,rfl,hQ,hN⟩;have hNSs:=hN.le st.chg.size;replace st:=St.prsT (b:=c.rb) st 2 rfl cw (.inl (.head _)) hP1 (zP8 hQ) hN.2;have hlt2:σ2.ok→σ2.r.length<σ1.r.length:=fun h=>gH0 m _ _ _ (hD.ok_inv h).2
 refine zA3 (zI4 (l:=[_,_,_,_,_,_,_]) st rfl rfl rfl rfl qU65 qZ67 rfl rfl rfl qV67 ?_);intro b17 w hb17 st;refine zA3 (qE3 (bytes:=120) st 2 0 rfl rfl rfl rfl rfl rfl qU65 Tryz.info67 rfl rfl rfl rfl rfl (by simp) rfl rfl (by unfold maxLen;omega) (by omega) ?_);intro oaQ capQ w st;have hS2:=SmSs.snoc (st.res (i:=3) rfl).1 (st.res (i:=1) rfl).1;have hN2:=hSq.app hNSs (st.ne (i:=3) (j:=1) (by decide) rfl rfl);replace st:=((st.pick [3,1,2,4] rfl (by decide)).join (q:=.tree (Sq++Ss) fun w=>SmSs 42 67 w (acc++[s]) (xs++smC s oe ob ol ce cb cl) (Sq++Ss)) (fun k hk=>List.mem_append.1 hk) (qI0 hS2)).pick [1,0,2] rfl (by decide);refine a3 ?_;refine zA7 (acc++[s],σ2,k,oaQ,capQ,xs++smC s oe ob ol ce cb cl,Sq++Ss)  (by refine⟨rfl,rfl,?_,trivial⟩;simp [find,put]) (by simpa using st) ?_ ?_;exact⟨hsf.trans hsf1,fun h2=>⟨ho0,by simp;have:=hlt2 h2;omega,by have:=hlt2 h2;dsimp only;omega⟩,hN2,hG.trans (kG4 ho hF hD)⟩;unfold RS.mu;dsimp only;rw [if_pos ho];split;have:=hlt2 (by assumption);omega;omega;intro hc12;have hT:zC7 [125] σ1=true:=by simpa using hc12
 rw [zH6 hT] at st;refine a12 ?_;refine vr1 st results224 ?_;have hown:=st.ownNw (i:=0) rfl;exact⟨acc,⟨σ1.r.tail,σ1.f⟩,by rw [hG];exact(kU7 hT).add_nil,(List.tail_suffix _).trans hsf1,(by exact st.rs 2),st.chg,oq,cq,obk oq++Sq,rfl,⟨xs,Sq,hown.1,rfl,(st.res (i:=1) rfl).1⟩,hown.2.app hSq (fun b hb=>st.ne (i:=0) (j:=1) (by decide) rfl rfl b (by simpa [Res.at?,zE8] using hb))⟩;intro hg8;have ho:¬ σ1.ok:=by simpa using hg8
 refine a16 ?_;refine a3 ?_;refine vr1 st results224 ?_;have hown:=st.ownNw (i:=0) rfl;exact⟨acc,σ1,by rw [hG,zF6 ho];exact⟨rfl,ho⟩,hsf1,(by exact st.rs 2),st.chg,oq,cq,obk oq++Sq,rfl,⟨xs,Sq,hown.1,rfl,(st.res (i:=1) rfl).1⟩,hown.2.app hSq (fun b hb=>st.ne (i:=0) (j:=1) (by decide) rfl rfl b (by simpa [Res.at?,zE8] using hb))⟩
theorem kG9 (c:RCtx) (n:Nat) (hS:SSR c n):BKR c n:=by
 intro m d hd σ hr hn w hC hP;refine zB [_,_] func255 rfl ntmps255 rfl ?_;obtain⟨w0,rfl⟩:∃ w0,w0=w:=⟨_,rfl⟩
 have hP':=hP;dsimp only [RAt,zQ4] at hP;have st:=St.of1 [c.rb] hP;have h20:=hC.len;have hl:=zB6 hr;refine a9 ?_;refine zA3 (zA1 [_] rfl rfl call140 rfl (zR5 c σ hr _ (hC.k1 st.chg) (by exact st.rs 0)) ?_);rintro _ w ⟨rfl,cw⟩;replace st:=st.call0 cw;refine vmb ?_ ?_;intro hg7;(try simp only [dn] at hg7);have ho:σ.ok:=by simpa using hg7
 refine a1 ?_;refine zA3 (zA1 [_,_] rfl rfl call219 rfl (qX4 c [123] σ hr _ (hC.k1 st.chg) (by exact st.rs 0)) ?_);rintro _ w ⟨rfl,cw⟩;replace st:=st.call0 cw;refine a1 ?_;refine vmb ?_ ?_;intro hg11;(try simp only [dn] at hg11);refine a5 ?_;refine vif ?_ ?_;intro hc14;(try simp only [dn] at hc14);have hT:zC7 [123] σ=true:=by rw [zG4 ho];simp_all
 obtain rfl:m=0:=by omega
 refine a2 ?_;refine zA3 (zA1 [_,_] rfl rfl call222 rfl (zW7 c 3 σ hr _ (hC.k1 st.chg) (by exact st.rs 0)) ?_);rintro _ w ⟨rfl,hP1,cw⟩;replace st:=St.prs (b:=c.rb) st 0 rfl cw (.inl (.head _)) hP1;dsimp only [zA0] at st;refine a5 ?_;refine zA3 (zA1 [_,_] rfl rfl call223 rfl (zG2 c [123] (zY8 c.e 3 σ) (by rw [zU5];exact hr) _ (hC.k1 st.chg) (by exact st.rs 0)) ?_);rintro _ w ⟨rfl,hP1,cw⟩;replace st:=St.prs (b:=c.rb) st 0 rfl cw (.inl (.head _)) hP1;dsimp only [zA0] at st;refine a6 ?_;refine vy (yin ((d+1:Nat):Int)) ?_;refine zA3 (zA1 [_,_] rfl rfl call224 rfl (hS 0 (d+1) (by omega) (zF3 c.e [123] (zY8 c.e 3 σ)) (wantR_suf.trans (by(rw [zU5];exact hr))) (fun h=>absurd h (by rw [qE8 (zO8 (by decide))];exact zO8 (by decide))) _ (hC.k1 st.chg) (by exact st.rs 0)) ?_);rintro _ w ⟨l,σ2,hD,hsf,hP1,cw,ob,cb,Sb,rfl,hQ,hN⟩;have hNSb:=hN.le st.chg.size;replace st:=St.prsT (b:=c.rb) st 0 rfl cw (.inl (.head _)) hP1 (zM8 hQ) hN.2;dsimp only [zA0] at st;have hbad:=zO8 (e:=c.e) (k:=3) (σ:=σ) (by decide);rw [qE8 hbad] at hD hsf;rw [zF6 hbad] at hD;rw [zU5] at hsf;refine a4 ?_;refine vr1 st results255 ?_;exact⟨l,σ2,kF2 hT hD.1,hsf,(by exact st.rs 1),st.chg,ob,cb,Sb,rfl,(by exact(st.res (i:=0) rfl).1),hNSb⟩;intro hc14;(try simp only [dn] at hc14);have hm:¬ (zC7 [123] σ=true∧m=0):=fun h=>by omega
 have hHN:∀ (hm:¬ (zC7 [123] σ=true∧m=0)),(zF3 c.e [123] σ).ok→(d+1)+(m - 1)=64∧(zF3 c.e [123] σ).r.length≤n:=fun hm h=>by
  by_cases ht:zC7 [123] σ=true
  ·have h1:=hn (zC8 ht).1
   unfold zF3;rw [if_pos ht]
   have h2:¬ m=0:=fun h0=>hm ⟨ht,h0⟩
   refine⟨by omega,?_⟩
   simp only [List.length_tail];omega
  ·unfold zF3 at h;rw [if_neg ht] at h;exact absurd h (zO8 (by decide))
 refine a5 ?_;refine zA3 (zA1 [_,_] rfl rfl call223 rfl (zG2 c [123] σ hr _ (hC.k1 st.chg) (by exact st.rs 0)) ?_);rintro _ w ⟨rfl,hP1,cw⟩;replace st:=St.prs (b:=c.rb) st 0 rfl cw (.inl (.head _)) hP1;dsimp only [zA0] at st;refine a6 ?_;refine vy (yin ((d+1:Nat):Int)) ?_;refine zA3 (zA1 [_,_] rfl rfl call224 rfl (hS (m - 1) (d+1) (by omega) (zF3 c.e [123] σ) (wantR_suf.trans (by exact hr)) (hHN hm) _ (hC.k1 st.chg) (by exact st.rs 0)) ?_);rintro _ w ⟨l,σ2,hD,hsf,hP1,cw,ob,cb,Sb,rfl,hQ,hN⟩;have hNSb:=hN.le st.chg.size;replace st:=St.prsT (b:=c.rb) st 0 rfl cw (.inl (.head _)) hP1 (zM8 hQ) hN.2;dsimp only [zA0] at st;refine a4 ?_;refine vr1 st results255 ?_;exact⟨l,σ2,qP7 hm (hD.congr (fun r=>rfl)),hsf.trans wantR_suf,(by exact st.rs 1),st.chg,ob,cb,Sb,rfl,(by exact(st.res (i:=0) rfl).1),hNSb⟩;intro hg11;(try simp only [dn] at hg11);have hm:¬ (zC7 [123] σ=true∧m=0):=by rw [zG4 ho];simp_all
 have hHN:∀ (hm:¬ (zC7 [123] σ=true∧m=0)),(zF3 c.e [123] σ).ok→(d+1)+(m - 1)=64∧(zF3 c.e [123] σ).r.length≤n:=fun hm h=>by
  by_cases ht:zC7 [123] σ=true
  ·have h1:=hn (zC8 ht).1
   unfold zF3;rw [if_pos ht]
   have h2:¬ m=0:=fun h0=>hm ⟨ht,h0⟩
   refine⟨by omega,?_⟩
   simp only [List.length_tail];omega
  ·unfold zF3 at h;rw [if_neg ht] at h;exact absurd h (zO8 (by decide))
 refine a11 ?_;refine zA3 (zA1 [_,_] rfl rfl call223 rfl (zG2 c [123] σ hr _ (hC.k1 st.chg) (by exact st.rs 0)) ?_);rintro _ w ⟨rfl,hP1,cw⟩;replace st:=St.prs (b:=c.rb) st 0 rfl cw (.inl (.head _)) hP1;dsimp only [zA0] at st;refine a6 ?_;refine vy (yin ((d+1:Nat):Int)) ?_;refine zA3 (zA1 [_,_] rfl rfl call224 rfl (hS (m - 1) (d+1) (by omega) (zF3 c.e [123] σ) (wantR_suf.trans (by exact hr)) (hHN hm) _ (hC.k1 st.chg) (by exact st.rs 0)) ?_);rintro _ w ⟨l,σ2,hD,hsf,hP1,cw,ob,cb,Sb,rfl,hQ,hN⟩;have hNSb:=hN.le st.chg.size;replace st:=St.prsT (b:=c.rb) st 0 rfl cw (.inl (.head _)) hP1 (zM8 hQ) hN.2;dsimp only [zA0] at st;refine a4 ?_;refine vr1 st results255 ?_;exact⟨l,σ2,qP7 hm (hD.congr (fun r=>rfl)),hsf.trans wantR_suf,(by exact st.rs 1),st.chg,ob,cb,Sb,rfl,(by exact(st.res (i:=0) rfl).1),hNSb⟩;intro hg7;(try simp only [dn] at hg7);have ho:¬ σ.ok:=by simpa using hg7
 have hm:¬ (zC7 [123] σ=true∧m=0):=by rw [gA5 ho];simp
 have hHN:∀ (hm:¬ (zC7 [123] σ=true∧m=0)),(zF3 c.e [123] σ).ok→(d+1)+(m - 1)=64∧(zF3 c.e [123] σ).r.length≤n:=fun hm h=>by
  by_cases ht:zC7 [123] σ=true
  ·have h1:=hn (zC8 ht).1
   unfold zF3;rw [if_pos ht]
   have h2:¬ m=0:=fun h0=>hm ⟨ht,h0⟩
   refine⟨by omega,?_⟩
   simp only [List.length_tail];omega
  ·unfold zF3 at h;rw [if_neg ht] at h;exact absurd h (zO8 (by decide))
 refine a15 ?_;refine zA3 (zA1 [_,_] rfl rfl call223 rfl (zG2 c [123] σ hr _ (hC.k1 st.chg) (by exact st.rs 0)) ?_);rintro _ w ⟨rfl,hP1,cw⟩;replace st:=St.prs (b:=c.rb) st 0 rfl cw (.inl (.head _)) hP1;dsimp only [zA0] at st;refine a6 ?_;refine vy (yin ((d+1:Nat):Int)) ?_;refine zA3 (zA1 [_,_] rfl rfl call224 rfl (hS (m - 1) (d+1) (by omega) (zF3 c.e [123] σ) (wantR_suf.trans (by exact hr)) (hHN hm) _ (hC.k1 st.chg) (by exact st.rs 0)) ?_);rintro _ w ⟨l,σ2,hD,hsf,hP1,cw,ob,cb,Sb,rfl,hQ,hN⟩;have hNSb:=hN.le st.chg.size;replace st:=St.prsT (b:=c.rb) st 0 rfl cw (.inl (.head _)) hP1 (zM8 hQ) hN.2;dsimp only [zA0] at st;refine a4 ?_;refine vr1 st results255 ?_;exact⟨l,σ2,qP7 hm (hD.congr (fun r=>rfl)),hsf.trans wantR_suf,(by exact st.rs 1),st.chg,ob,cb,Sb,rfl,(by exact(st.res (i:=0) rfl).1),hNSb⟩
end Go.Proofs.YtnmhlpnapgojjaaGreatDoor.Pq
