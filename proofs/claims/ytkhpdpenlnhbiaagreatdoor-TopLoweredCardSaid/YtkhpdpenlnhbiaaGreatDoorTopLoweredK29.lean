/- A part of the proof: contracts of functions and plain laws; each theorem says its own conditions. -/
import Derived.Test.YtkhpdpenlnhbiaaGreatDoorTopLoweredK23
import Derived.Test.YtkhpdpenlnhbiaaGreatDoorTopLoweredK5
import Derived.Test.YtkhpdpenlnhbiaaGreatDoorTopLoweredK7
import Derived.Test.YtkhpdpenlnhbiaaGreatDoorTopLoweredK28
set_option linter.unusedVariables false
set_option linter.unusedSimpArgs false
/- The engine: appending a row that can be read to a row that is another's. -/
namespace Sx
open Go Go.RowKit
section
variable {w0 w w':World} {M:List Nat} {hs:List Res}
variable {P:Program} {n:Fr} {L:List Oper} {Q:Exit→Act→World→Prop} {kn:Kn} {N:Act→World→Prop}
variable {d ty:Nat} {pos:String} {aft:Array Edge} {g:Option (Nat×Bool)}
theorem e_apprZ (st:St w0 M hs w) (i:Nat) {T E size bytes m len c:Nat} {x y:Operand} {v z:Value} {oa:Option Addr} {xs l:List Value} {ti:TypeInfo} (hw:gd L kn g=some true) (hd:okDst n (some d)=true)
    (hx:evO kn x=some v) (hy:evO kn y=some (.slice oa m c)) (hi:nth hs i=some (frnZ M w0.heap.size E size v len xs)) (hsrc:RdRowC w oa l)
    (ht:P.underlying T=some (.slice E)) (hinfo:P.info? E=some ti) (hz:ti.zero=some z) (hsize:ti.size=size) (hby:ti.bytes=bytes) (hzs:z.cells.size=size) (hsz:Nat.blt 0 size=true)
    (hl:l.length=m*size) (h1:∀ u∈l,u.oneCell'=true) (h63:len+m≤maxLen) (hbytes:(len+m)*bytes≤140737488355328) {len':Nat} {ys:List Value} (hlen':len+m=len') (hys:xs++l=ys)
    (next:∀ oa cap w',St w0 M (setNth hs i (frnZ M w0.heap.size E size (.slice oa len' cap) len' ys)) w'→vN n N ((d,.slice oa len' cap)::kn) w') :
    vS P n L Q ⟨some d,.call ⟨.builtin .append,#[x,y],#[T,T]⟩,ty,pos,aft,g⟩ N kn w:=by
  subst hlen' hys
  have hsz':0<size:=by simpa [Nat.blt_eq] using hsz
  have hown0:w.ownsRow 0 E size v len xs:=(st.res hi).1.1
  obtain⟨v',w',hr,hown,hg,hat,⟨oa',cap,rfl⟩⟩:∃ v' w',(Builtin.append_ #[T,T] ty #[v,.slice oa m c]).run P w=.ok v' w'∧w'.ownsRow 0 E size v' (len+m) (xs++l)∧w.grownBy w' v.ownBlock∧
      (v'.ownBlock=v.ownBlock∨v'.ownBlock=some w.heap.size)∧∃ oa cap,v'=.slice oa (len+m) cap:=by
    have key:∀ a,oa=some a→(∀ k u,l[k]?=some u→w.cell? (a.add k)=some u)→∃ v' w',(Builtin.append_ #[T,T] ty #[v,.slice oa m c]).run P w=.ok v' w'∧w'.ownsRow 0 E size v' (len+m) (xs++l)∧w.grownBy w' v.ownBlock∧
      (v'.ownBlock=v.ownBlock∨v'.ownBlock=some w.heap.size)∧∃ oa cap,v'=.slice oa (len+m) cap:=by
      rintro a rfl hc
      obtain⟨v',w',hr,hown,hg,hnil,hat⟩:=run_append_own_at (P:=P) w 0 T ty E ti z size bytes ht hinfo hz hsize hby hzs hsz' v len xs hown0 a m c l hl
        (fun k u hk=>hc k u hk) h1 h63 hbytes (Nat.zero_le _)
      exact⟨v',w',hr,hown,hg,hat,slice_formZ hown⟩
    rcases hsrc with rfl|⟨a,ha,hc⟩
    · obtain rfl:m=0:=by
        simp only [List.length_nil] at hl
        rcases Nat.eq_zero_or_pos m with h|h
        · exact h
        · have:=Nat.mul_pos h hsz';omega
      cases oa with
      | none=>exact⟨v,w,run_append_none' 0 T ty E ti size c ht hinfo v len xs hown0,by simpa using hown0,⟨rfl,rfl,rfl,Nat.le_refl _,fun _ _ _=>rfl⟩,.inl rfl,slice_formZ hown0⟩
      | some a=>exact key a rfl (fun k u hk=>by simp at hk)
    · exact key a ha hc
  refine e_bi [v,.slice oa m c] hw hd (by simp [hx,hy]) (w':=w') (fun cs=>?_) (next oa' cap w' (st.appZ hi hg hown (fun k hk=>by
    rcases hat with h|h
    · rw [h] at hk;exact .inl hk
    · rw [h] at hk;simp at hk;exact .inr (by omega))))
  simp only [builtin,Sem.run_bind,List.toArray,hr]
  rfl
theorem ownsRow_rd {base E size len cap:Nat} {oa:Option Addr} {xs:List Value} (h:w.ownsRow base E size (.slice oa len cap) len xs) (hs:0<size):RdRowC w oa xs:=by
  by_cases h0:len=0
  · left
    have:=h.1
    rw [h0,Nat.zero_mul] at this
    exact List.eq_nil_of_length_eq_zero this
  · obtain⟨b,c,e,-⟩:=own_form h (by omega)
    simp only [Value.slice.injEq] at e
    obtain⟨rfl,-,rfl⟩:=e
    exact .inr ⟨_,rfl,fun k u hk=>by rw [addr_add,Nat.zero_add];exact own_cell h hk⟩
end
end Sx
namespace Go.Proofs.YtkhpdpenlnhbiaaGreatDoor
open Go.RowKit Sx LexS ParS _root_.Go.Proofs.Tryz
theorem Tryz.info83:Tryz.prog.info? 83=some Tryz.t83:=by kernel_rfl
theorem Tryz.info124:Tryz.prog.info? 124=some Tryz.t124:=by kernel_rfl
structure Cx where
 p:Pg
 t:Th
 ti:Nat
 os:Option Addr
 ol:Option Addr
 ot:Option Addr
 cs:Nat
 cl:Nat
 ct:Nat
abbrev loC (c:Cx) (s:Nat) (gv qv:Value) (ov:Bool):List Value:=[.slice c.os c.p.shared.length c.cs,.slice c.ol c.p.locks.length c.cl,.slice c.ot c.p.threads.length c.ct,.int .i64 (c.ti:Int),str c.t.nm,.int .i64 (c.t.locals.length:Int),.int .i64 (s:Int),gv,qv,.bool ov]
structure Clo where
 at_:Nat
 b:Bool
 c1:Nat
 c2:Nat
def cloF (b:Bool):Nat:=if b=true then 126 else 113
abbrev clF (b:Bool) (c1 c2:Nat):Value:=.func (.func (cloF b)) #[] [.pointer (some ⟨c1,0,none⟩),.pointer (some ⟨c2,0,none⟩)].toArray
abbrev clV (q:Clo):Value:=clF q.b q.c1 q.c2
abbrev clO (q:Clo):Nat×Bool:=(q.at_,q.b)
def clB (cl:List Clo):List Nat:=cl.flatMap fun q=>[q.c1,q.c2]
def clOk (xb:Nat) (w:World) (q:Clo):Prop:=w.heap[q.c1]?=some (.cells [.pointer (some ⟨xb,0,none⟩)].toArray 73 (0,0))∧w.heap[q.c2]?=some (.cells [.int .i64 (q.at_:Int)].toArray 3 (0,0))
def loS (xb:Nat) (gv qv:Value) (cl:List Clo):List Nat:=xb::(gv.ownBlock.toList++(qv.ownBlock.toList++clB cl))
structure Lo (c:Cx) (xb:Nat) (st:LS) (gv qv:Value) (cl:List Clo) (w:World):Prop where
 cell:w.heap[xb]?=some (.cells (loC c st.s gv qv st.ov).toArray 76 (0,0))
 row:w.ownsRow 0 83 13 gv st.N.length (gnL st.N 0)
 opn:w.ownsRow 0 124 1 qv cl.length (cl.map clV)
 cls:∀ q∈cl,clOk xb w q
 eq:st.op=cl.map clO
 lt:∀ f∈st.op,f.1<st.N.length
 le:st.N.length≤4096
 ap:Apart [.blk xb (.cells #[] 0 (0,0)),.tree gv.ownBlock.toList (fun _=>True),.tree qv.ownBlock.toList (fun _=>True),.tree (clB cl) (fun _=>True)]
theorem clOk.lt {xb:Nat} {cl:List Clo} {w:World} (h:∀ q∈cl,clOk xb w q):∀ k∈clB cl,k<w.heap.size:=by
 intro k hk
 obtain⟨q,hq,hk⟩:=List.mem_flatMap.1 hk
 simp only [List.mem_cons,List.not_mem_nil,or_false] at hk
 rcases hk with rfl|rfl
 ·exact(Array.getElem?_eq_some_iff.1 (h q hq).1).1
 ·exact(Array.getElem?_eq_some_iff.1 (h q hq).2).1
theorem clOk.kept {xb:Nat} {cl:List Clo} {w w':World} (h:∀ q∈cl,clOk xb w q) (hk:∀ k∈clB cl,w'.heap[k]?=w.heap[k]?):∀ q∈cl,clOk xb w' q:=fun q hq=>
 ⟨(hk _ (List.mem_flatMap.2 ⟨q,hq,by simp⟩)).trans (h q hq).1,(hk _ (List.mem_flatMap.2 ⟨q,hq,by simp⟩)).trans (h q hq).2⟩
theorem Lo.reg {c:Cx} {xb:Nat} {L:LS} {gv qv:Value} {cl:List Clo} {w:World} (h:Lo c xb L gv qv cl w):Reg (loS xb gv qv cl) (Lo c xb L gv qv cl) w:=by
 refine⟨h,fun k hk=>?_,fun w w' hs hk h=>⟨(hk xb (.head _)).trans h.cell,loc_ownsZ _ _ _ _ _ w w' hs (fun k hk'=>hk k (.tail _ (List.mem_append.2 (.inl hk')))) h.row,loc_ownsZ _ _ _ _ _ w w' hs (fun k hk'=>hk k (.tail _ (List.mem_append.2 (.inr (List.mem_append.2 (.inl hk')))))) h.opn,clOk.kept h.cls (fun k hk'=>hk k (.tail _ (List.mem_append.2 (.inr (List.mem_append.2 (.inr hk')))))),h.eq,h.lt,h.le,h.ap⟩⟩
 rcases List.mem_cons.1 hk with rfl|hk
 ·exact(Array.getElem?_eq_some_iff.1 h.cell).1
 ·rcases List.mem_append.1 hk with hk|hk
  ·exact(World.ownsRow.lt h.row k (by simpa using hk)).2
  ·rcases List.mem_append.1 hk with hk|hk
   ·exact(World.ownsRow.lt h.opn k (by simpa using hk)).2
   ·exact clOk.lt h.cls k hk
def clR (M:List Nat) (base xb:Nat) (cl:List Clo):Res:=.tree (clB cl) fun w=>(∀ q∈cl,clOk xb w q)∧∀ k∈clB cl,k∈M∨base≤k
theorem clR_holds {M:List Nat} {base base' xb:Nat} {cl:List Clo} {w:World} (h:∀ q∈cl,clOk xb w q) (hm:∀ k∈clB cl,k∈M∨base≤k):(clR M base xb cl).holds base' w:=
 ⟨⟨h,hm⟩,clOk.lt h,fun a b _ hk hp=>⟨clOk.kept hp.1 hk,hp.2⟩⟩
theorem clR_at {M:List Nat} {base xb:Nat} {cl:List Clo}:(clR M base xb cl).at?=clB cl:=rfl
theorem frnZ_ats {M:List Nat} {base E size n:Nat} {v:Value} {xs:List Value}:(frnZ M base E size v n xs).at?=v.ownBlock.toList:=rfl
abbrev loG (M:List Nat) (base:Nat) (c:Cx) (xb:Nat) (L:LS) (gv qv:Value) (cl:List Clo):Res:=Sx.reg M base (loS xb gv qv cl) (Lo c xb L gv qv cl)
abbrev loX (c:Cx) (xb s:Nat) (gv qv:Value) (ov:Bool):Res:=.blk xb (.cells (loC c s gv qv ov).toArray 76 (0,0))
abbrev ndR (M:List Nat) (base:Nat) (gv:Value) (N:List Gn):Res:=frnZ M base 83 13 gv N.length (gnL N 0)
abbrev opR (M:List Nat) (base:Nat) (qv:Value) (cl:List Clo):Res:=frnZ M base 124 1 qv cl.length (cl.map clV)
theorem _root_.Sx.St.loOpen {w0 w:World} {M:List Nat} {hs:List Res} {c:Cx} {xb:Nat} {L:LS} {gv qv:Value} {cl:List Clo} (st:St w0 M (loG M w0.heap.size c xb L gv qv cl::hs) w) :
    St w0 M (loX c xb L.s gv qv L.ov::ndR M w0.heap.size gv L.N::opR M w0.heap.size qv cl::clR M w0.heap.size xb cl::hs) w:=by
 obtain⟨⟨h,hm⟩,-,-⟩:=st.res (i:=0) rfl
 have h0:=(List.pairwise_cons.1 st.nodup).1
 have i1:∀ k∈gv.ownBlock.toList,k∈loS xb gv qv cl:=fun k hk=>.tail _ (List.mem_append.2 (.inl hk))
 have i2:∀ k∈qv.ownBlock.toList,k∈loS xb gv qv cl:=fun k hk=>.tail _ (List.mem_append.2 (.inr (List.mem_append.2 (.inl hk))))
 have i3:∀ k∈clB cl,k∈loS xb gv qv cl:=fun k hk=>.tail _ (List.mem_append.2 (.inr (List.mem_append.2 (.inr hk))))
 obtain⟨a1,a2⟩:=List.pairwise_cons.1 h.ap
 obtain⟨a2,a3⟩:=List.pairwise_cons.1 a2
 obtain⟨a3,-⟩:=List.pairwise_cons.1 a3
 refine((((st.drop (hs':=hs) (.cons _ (List.Sublist.refl _))).add (r:=clR M w0.heap.size xb cl) (clR_holds h.cls fun k hk=>hm k (i3 k hk)) ?_).add (r:=opR M w0.heap.size qv cl) (frnZ_holds h.opn fun k hk=>hm k (i2 k (Option.mem_toList.2 hk))) ?_).add (r:=ndR M w0.heap.size gv L.N) (frnZ_holds h.row fun k hk=>hm k (i1 k (Option.mem_toList.2 hk))) ?_).addB h.cell ?_
 ·intro x hx k hk
  exact h0 x hx k (i3 k hk)
 ·intro x hx k hk
  rcases List.mem_cons.1 hx with rfl|hx
  ·exact a3 _ (.head _) k hk
  ·exact h0 x hx k (i2 k hk)
 ·intro x hx k hk
  rcases List.mem_cons.1 hx with rfl|hx
  ·exact a2 _ (.head _) k hk
  ·rcases List.mem_cons.1 hx with rfl|hx
   ·exact a2 _ (.tail _ (.head _)) k hk
   ·exact h0 x hx k (i1 k hk)
 intro x hx
 rcases List.mem_cons.1 hx with rfl|hx
 ·exact a1 _ (.head _) xb (.head _)
 ·rcases List.mem_cons.1 hx with rfl|hx
  ·exact a1 _ (.tail _ (.head _)) xb (.head _)
  ·rcases List.mem_cons.1 hx with rfl|hx
   ·exact a1 _ (.tail _ (.tail _ (.head _))) xb (.head _)
   ·exact h0 x hx xb (.head _)
theorem _root_.Sx.St.loClose {w0 w:World} {M:List Nat} {hs:List Res} {c:Cx} {xb:Nat} {gv qv:Value} {cl:List Clo} {s:Nat} {ov:Bool} {N:List Gn} (L:LS) (st:St w0 M (loX c xb s gv qv ov::ndR M w0.heap.size gv N::opR M w0.heap.size qv cl::clR M w0.heap.size xb cl::hs) w)
    (hL:L=⟨N,s,cl.map clO,ov⟩) (hx:xb∈M∨w0.heap.size≤xb) (lt:∀ f∈cl.map clO,f.1<N.length) (le:N.length≤4096):St w0 M (loG M w0.heap.size c xb L gv qv cl::hs) w:=by
 subst hL
 obtain⟨b1,b2⟩:=List.pairwise_cons.1 st.nodup
 obtain⟨b2,b3⟩:=List.pairwise_cons.1 b2
 obtain⟨b3,b4⟩:=List.pairwise_cons.1 b3
 obtain⟨b4,b5⟩:=List.pairwise_cons.1 b4
 have h1:=st.res (i:=1) rfl
 have h2:=st.res (i:=2) rfl
 have h3:=st.res (i:=3) rfl
 have hLo:Lo c xb ⟨N,s,cl.map clO,ov⟩ gv qv cl w:=⟨st.res (i:=0) rfl,h1.1.1,h2.1.1,h3.1.1,rfl,lt,le,by
   refine List.pairwise_cons.2 ⟨fun x hx k hk=>?_,List.pairwise_cons.2 ⟨fun x hx k hk=>?_,List.pairwise_cons.2 ⟨fun x hx k hk=>?_,List.pairwise_singleton _ _⟩⟩⟩
   · simp only [List.mem_cons,List.not_mem_nil,or_false] at hx
     rcases hx with rfl|rfl|rfl
     · exact b1 _ (.head _) k hk
     · exact b1 _ (.tail _ (.head _)) k hk
     · exact b1 _ (.tail _ (.tail _ (.head _))) k hk
   · simp only [List.mem_cons,List.not_mem_nil,or_false] at hx
     rcases hx with rfl|rfl
     · exact b2 _ (.head _) k hk
     · exact b2 _ (.tail _ (.head _)) k hk
   · simp only [List.mem_cons,List.not_mem_nil,or_false] at hx
     subst hx
     exact b3 _ (.head _) k hk⟩
 refine(st.drop (hs':=hs) (.cons _ (.cons _ (.cons _ (.cons _ (List.Sublist.refl _)))))).add (reg_holds hLo.reg ?_) ?_
 ·intro k hk
  rcases List.mem_cons.1 hk with rfl|hk
  ·exact hx
  ·rcases List.mem_append.1 hk with hk|hk
   ·exact h1.1.2 k (Option.mem_toList.1 hk)
   ·rcases List.mem_append.1 hk with hk|hk
    ·exact h2.1.2 k (Option.mem_toList.1 hk)
    ·exact h3.1.2 k hk
 intro y hy k hk
 rcases List.mem_cons.1 hk with rfl|hk
 ·exact b1 y (.tail _ (.tail _ (.tail _ hy))) _ (.head _)
 ·rcases List.mem_append.1 hk with hk|hk
  ·exact b2 y (.tail _ (.tail _ hy)) k hk
  ·rcases List.mem_append.1 hk with hk|hk
   ·exact b3 y (.tail _ hy) k hk
   ·exact b4 y hy k hk
def LoP (c:Cx) (xb:Nat) (S:List Nat) (L':LS) (w w':World):Prop:=∃ gv' qv' cl',RegP S (loS xb gv' qv' cl') (Lo c xb L' gv' qv' cl') w w'
theorem LS.eta {L:LS} {cl:List Clo} (h:L.op=cl.map clO):L=⟨L.N,L.s,cl.map clO,L.ov⟩:=by cases L;simp only at h;subst h;rfl
theorem lnext_any (xb k:Nat) (w:World):Ret Tryz.prog 56 [.pointer (some ⟨xb,0,none⟩),.int .i64 (k:Int)] w fun v w'=>(∃ c1 c2,v=clF false c1 c2∧w'.heap[c1]?=some (.cells [.pointer (some ⟨xb,0,none⟩)].toArray 73 (0,0))∧w'.heap[c2]?=some (.cells [.int .i64 (k:Int)].toArray 3 (0,0))∧c1≠c2∧w.heap.size≤c1∧w.heap.size≤c2)∧Chg [] w w':=by
 refine ret_of [_,_] func56 rfl ntmps56 rfl ?_
 have st:=St.init w []
 refine sr ?_
 refine vc_e (e_bx (l:=[_]) st rfl rfl rfl rfl ?_)
 intro b2 w hb2 st
 refine vc_e (e_bx (l:=[_]) st rfl rfl rfl rfl ?_)
 intro b3 w hb3 st
 refine ya ?_
 refine et (vk2 2 3 (sr ?_))
 refine vy (y_mf [] [_,_] rfl rfl) ?_
 refine ya ?_
 refine et (vk1 4 (vc_ret ?_))
 refine vr1 st results56 ?_
 exact⟨⟨b2,b3,rfl,st.res (i:=1) rfl,st.res (i:=0) rfl,st.bne 1 0 (by decide) rfl rfl,hb2,hb3⟩,st.chg⟩
theorem lother_any (xb k:Nat) (w:World):Ret Tryz.prog 112 [.pointer (some ⟨xb,0,none⟩),.int .i64 (k:Int)] w fun v w'=>(∃ c1 c2,v=clF true c1 c2∧w'.heap[c1]?=some (.cells [.pointer (some ⟨xb,0,none⟩)].toArray 73 (0,0))∧w'.heap[c2]?=some (.cells [.int .i64 (k:Int)].toArray 3 (0,0))∧c1≠c2∧w.heap.size≤c1∧w.heap.size≤c2)∧Chg [] w w':=by
 refine ret_of [_,_] func112 rfl ntmps112 rfl ?_
 have st:=St.init w []
 refine sr ?_
 refine vc_e (e_bx (l:=[_]) st rfl rfl rfl rfl ?_)
 intro b2 w hb2 st
 refine vc_e (e_bx (l:=[_]) st rfl rfl rfl rfl ?_)
 intro b3 w hb3 st
 refine ya ?_
 refine et (vk2 2 3 (sr ?_))
 refine vy (y_mf [] [_,_] rfl rfl) ?_
 refine ya ?_
 refine et (vk1 4 (vc_ret ?_))
 refine vr1 st results112 ?_
 exact⟨⟨b2,b3,rfl,st.res (i:=1) rfl,st.res (i:=0) rfl,st.bne 1 0 (by decide) rfl rfl,hb2,hb3⟩,st.chg⟩
theorem lgon_any (c:Cx) (xb gb cap c1 c2 k tn s:Nat) (N:List Gn) (qv:Value) (ov:Bool) (w:World) (hx:w.heap[xb]?=some (.cells (loC c s (.slice (some ⟨gb,0,none⟩) N.length cap) qv ov).toArray 76 (0,0))) (ho:w.ownsRow 0 83 13 (.slice (some ⟨gb,0,none⟩) N.length cap) N.length (gnL N 0)) (hnd:xb≠gb∧c1≠xb∧c1≠gb∧c2≠xb∧c2≠gb∧c1≠c2)
    (h1:w.heap[c1]?=some (.cells [.pointer (some ⟨xb,0,none⟩)].toArray 73 (0,0))) (h2:w.heap[c2]?=some (.cells [.int .i64 (k:Int)].toArray 3 (0,0))) (hk:k<N.length) :
  Ret Tryz.prog 113 [.int .i64 (tn:Int),.pointer (some ⟨c1,0,none⟩),.pointer (some ⟨c2,0,none⟩)] w fun v w'=>w'.ownsRow 0 83 13 (.slice (some ⟨gb,0,none⟩) N.length cap) N.length (gnL (ptc tn N (k,false)) 0)∧Chg [gb] w w':=by
 refine ret_of [_,_,_] func113 rfl ntmps113 rfl ?_
 have st:=St.init w []
 obtain⟨w0,rfl⟩:∃ w0,w0=w:=⟨_,rfl⟩
 have hlen:(gnL N 0).length=N.length*13:=gnL_len N 0
 obtain⟨n1,n2,n3,n4,n5,n6⟩:=hnd
 have hset:gnL (ptc tn N (k,false)) 0=(gnL N 0).take (k*13+10)++[.int .i64 (tn:Int)]++(gnL N 0).drop (k*13+10+1):=by
  have:=gnL_set false tn N 0 k hk
  simpa [ptc] using this
 rw [hset]
 replace st:=((((St.init w0 [gb]).addB h2 (by simp)).addB h1 (by simp [blk_at];omega)).addB hx (by simp [blk_at];omega)).add (r:=frnZ [gb] w0.heap.size 83 13 (.slice (some ⟨gb,0,none⟩) N.length cap) N.length (gnL N 0)) (frnZ_holds ho (fun k hk=>.inl (by simpa [Value.ownBlock,eq_comm] using hk))) (by simp [blk_at,frnZ_at];omega)
 refine vk_draw Tryz.mixed [(6,true),(0,true),(1,true),(2,true),(3,true),(4,true),(5,true),(7,true),(8,true),(9,false)] 9 (fun w=>St _ _ _ w) st (by kernel_rfl) (by repeat (first|exact okQ_noPan|exact okQ_body|exact okQ_bodyS|refine okQ_then ?_|refine okQ_block ?_)) rfl (by kernel_rfl) rfl ?_
 intro w cd;replace st:=st.call0 cd;clear cd
 have hS:=st
 refine km hS ?_
 refine vk_take rfl rfl rfl rfl hS (fun w st=>y_ld st 2 rfl isAgg73 rfl rfl) ?_
 refine vk_takeU rfl rfl rfl rfl (fun _=>hS) (fun w=>y_nck rfl) ?_
 refine vk_takeU rfl rfl rfl rfl (fun _=>hS) (fun w=>(by exact y_faz (k:=4) rfl underlying76 rfl rfl sizeOf43 rfl)) ?_
 refine vk_takeU rfl rfl rfl rfl (fun _=>hS) (fun w=>(by exact y_fa (k:=3) rfl underlying43 rfl rfl sizeOf41 rfl)) ?_
 refine vk_take rfl rfl rfl rfl hS (fun w st=>y_ld st 1 rfl isAgg41 rfl rfl) ?_
 refine vk_take rfl rfl rfl rfl hS (fun w st=>y_ld st 3 rfl isAgg3 rfl rfl) ?_
 refine vk_takeU rfl rfl rfl rfl (fun _=>hS) (fun w=>(by exact y_ia0 (k:=k) rfl rfl underlying41 sizeOf83 rfl (by omega))) ?_
 refine vk_takeU rfl rfl rfl rfl (fun _=>hS) (fun w=>(by exact y_fa (k:=10) rfl underlying83 rfl rfl sizeOf3 rfl)) ?_
 refine vk_do rfl rfl (e_stZ (vs:=[_]) st 0 rfl rfl rfl rfl rfl sizeOf3 rfl (by simp only [List.length_cons,List.length_nil];omega) ?_)
 intro w st;dsimp only [setNth] at st
 refine vk_late ?_
 refine vk_end ?_
 refine vq_ret0 (.inr rfl) results113 ?_
 refine⟨_,rfl,?_⟩
 exact⟨(st.res (i:=0) rfl).1.1,st.chg⟩
theorem lgoo_any (c:Cx) (xb gb cap c1 c2 k tn s:Nat) (N:List Gn) (qv:Value) (ov:Bool) (w:World) (hx:w.heap[xb]?=some (.cells (loC c s (.slice (some ⟨gb,0,none⟩) N.length cap) qv ov).toArray 76 (0,0))) (ho:w.ownsRow 0 83 13 (.slice (some ⟨gb,0,none⟩) N.length cap) N.length (gnL N 0)) (hnd:xb≠gb∧c1≠xb∧c1≠gb∧c2≠xb∧c2≠gb∧c1≠c2)
    (h1:w.heap[c1]?=some (.cells [.pointer (some ⟨xb,0,none⟩)].toArray 73 (0,0))) (h2:w.heap[c2]?=some (.cells [.int .i64 (k:Int)].toArray 3 (0,0))) (hk:k<N.length) :
  Ret Tryz.prog 126 [.int .i64 (tn:Int),.pointer (some ⟨c1,0,none⟩),.pointer (some ⟨c2,0,none⟩)] w fun v w'=>w'.ownsRow 0 83 13 (.slice (some ⟨gb,0,none⟩) N.length cap) N.length (gnL (ptc tn N (k,true)) 0)∧Chg [gb] w w':=by
 refine ret_of [_,_,_] func126 rfl ntmps126 rfl ?_
 have st:=St.init w []
 obtain⟨w0,rfl⟩:∃ w0,w0=w:=⟨_,rfl⟩
 have hlen:(gnL N 0).length=N.length*13:=gnL_len N 0
 obtain⟨n1,n2,n3,n4,n5,n6⟩:=hnd
 have hset:gnL (ptc tn N (k,true)) 0=(gnL N 0).take (k*13+11)++[.int .i64 (tn:Int)]++(gnL N 0).drop (k*13+11+1):=by
  have:=gnL_set true tn N 0 k hk
  simpa [ptc] using this
 rw [hset]
 replace st:=((((St.init w0 [gb]).addB h2 (by simp)).addB h1 (by simp [blk_at];omega)).addB hx (by simp [blk_at];omega)).add (r:=frnZ [gb] w0.heap.size 83 13 (.slice (some ⟨gb,0,none⟩) N.length cap) N.length (gnL N 0)) (frnZ_holds ho (fun k hk=>.inl (by simpa [Value.ownBlock,eq_comm] using hk))) (by simp [blk_at,frnZ_at];omega)
 refine vk_draw Tryz.mixed [(6,true),(0,true),(1,true),(2,true),(3,true),(4,true),(5,true),(7,true),(8,true),(9,false)] 9 (fun w=>St _ _ _ w) st (by kernel_rfl) (by repeat (first|exact okQ_noPan|exact okQ_body|exact okQ_bodyS|refine okQ_then ?_|refine okQ_block ?_)) rfl (by kernel_rfl) rfl ?_
 intro w cd;replace st:=st.call0 cd;clear cd
 have hS:=st
 refine km hS ?_
 refine vk_take rfl rfl rfl rfl hS (fun w st=>y_ld st 2 rfl isAgg73 rfl rfl) ?_
 refine vk_takeU rfl rfl rfl rfl (fun _=>hS) (fun w=>y_nck rfl) ?_
 refine vk_takeU rfl rfl rfl rfl (fun _=>hS) (fun w=>(by exact y_faz (k:=4) rfl underlying76 rfl rfl sizeOf43 rfl)) ?_
 refine vk_takeU rfl rfl rfl rfl (fun _=>hS) (fun w=>(by exact y_fa (k:=3) rfl underlying43 rfl rfl sizeOf41 rfl)) ?_
 refine vk_take rfl rfl rfl rfl hS (fun w st=>y_ld st 1 rfl isAgg41 rfl rfl) ?_
 refine vk_take rfl rfl rfl rfl hS (fun w st=>y_ld st 3 rfl isAgg3 rfl rfl) ?_
 refine vk_takeU rfl rfl rfl rfl (fun _=>hS) (fun w=>(by exact y_ia0 (k:=k) rfl rfl underlying41 sizeOf83 rfl (by omega))) ?_
 refine vk_takeU rfl rfl rfl rfl (fun _=>hS) (fun w=>(by exact y_fa (k:=11) rfl underlying83 rfl rfl sizeOf3 rfl)) ?_
 refine vk_do rfl rfl (e_stZ (vs:=[_]) st 0 rfl rfl rfl rfl rfl sizeOf3 rfl (by simp only [List.length_cons,List.length_nil];omega) ?_)
 intro w st;dsimp only [setNth] at st
 refine vk_late ?_
 refine vk_end ?_
 refine vq_ret0 (.inr rfl) results126 ?_
 refine⟨_,rfl,?_⟩
 exact⟨(st.res (i:=0) rfl).1.1,st.chg⟩
theorem lgo_any (c:Cx) (xb gb cap tn s:Nat) (q:Clo) (N:List Gn) (qv:Value) (ov:Bool) (w:World) (hx:w.heap[xb]?=some (.cells (loC c s (.slice (some ⟨gb,0,none⟩) N.length cap) qv ov).toArray 76 (0,0))) (ho:w.ownsRow 0 83 13 (.slice (some ⟨gb,0,none⟩) N.length cap) N.length (gnL N 0)) (hnd:xb≠gb∧q.c1≠xb∧q.c1≠gb∧q.c2≠xb∧q.c2≠gb∧q.c1≠q.c2)
    (h:clOk xb w q) (hk:q.at_<N.length) :
  Ret Tryz.prog (cloF q.b) [.int .i64 (tn:Int),.pointer (some ⟨q.c1,0,none⟩),.pointer (some ⟨q.c2,0,none⟩)] w fun v w'=>w'.ownsRow 0 83 13 (.slice (some ⟨gb,0,none⟩) N.length cap) N.length (gnL (ptc tn N (clO q)) 0)∧Chg [gb] w w':=by
 obtain⟨k,b,c1,c2⟩:=q
 cases b
 ·exact lgon_any c xb gb cap c1 c2 k tn s N qv ov w hx ho hnd h.1 h.2 hk
 ·exact lgoo_any c xb gb cap c1 c2 k tn s N qv ov w hx ho hnd h.1 h.2 hk
theorem cloF_call (b:Bool):∀ (az:Array Value) w,(callFunc (cloF b) az).run Tryz.prog w=.ok (.enter (cloF b) az) w:=by
 cases b
 ·exact call113
 ·exact call126
theorem clo_ne {xb:Nat} {w:World} {q:Clo} (h:clOk xb w q):q.c1≠q.c2:=by
 intro e
 have h1:=h.1
 rw [e,h.2] at h1
 cases h1
set_option maxHeartbeats 1000000 in
theorem lead_any (c:Cx) (xb k:Nat) (L:LS) (gv qv:Value) (cl:List Clo) (w:World) (h:Lo c xb L gv qv cl w) (hob:L.op.length≤1099511627776) :
    Ret Tryz.prog 55 [.pointer (some ⟨xb,0,none⟩),.int .i64 (k:Int)] w fun v w'=>RegP (loS xb gv qv cl) (loS xb gv (.slice none 0 0) []) (Lo c xb {L with N:=leadL L.op k L.N,op:=[]} gv (.slice none 0 0) []) w w':=by
 refine ret_of [_,_] func55 rfl ntmps55 rfl ?_
 have st:=St.init w []
 obtain⟨w0,rfl⟩:∃ w0,w0=w:=⟨_,rfl⟩
 replace st:=(St.regInit h.reg).loOpen
 have heq:=h.eq
 have hlt:=h.lt
 have hle:=h.le
 have hcl:cl.length≤1099511627776:=by rw [heq,List.length_map] at hob;exact hob
 obtain⟨oq,cq,rfl⟩:=slice_formZ h.opn
 refine vc_seq (sr ?_)
 refine ym ?_
 refine ynk ?_
 refine yfz 8 underlying76 sizeOf74 ?_
 refine yl st 0 isAgg74 ?_
 refine vy (y_lensl rfl underlying74) ?_
 refine ym ?_
 refine et (vk5 0 1 9 10 11 (vc_block ?_))
 refine vc_loop (w0:=w0) (M:=(loS xb gv (.slice oq cl.length cq) cl)) (fun (j:Nat)=>[(0,.pointer (some ⟨xb,0,none⟩)),(1,.int .i64 (k:Int)),(9,.slice oq cl.length cq),(10,.int .i64 (cl.length:Int)),(11,.int .i64 (j:Int))]) (fun j=>[loX c xb L.s gv (.slice oq cl.length cq) L.ov,ndR (loS xb gv (.slice oq cl.length cq) cl) w0.heap.size gv (leadL (L.op.take j) k L.N),opR (loS xb gv (.slice oq cl.length cq) cl) w0.heap.size (.slice oq cl.length cq) cl,clR (loS xb gv (.slice oq cl.length cq) cl) w0.heap.size xb cl]) (fun j w'=>j≤cl.length) (fun j=>cl.length - j) 0 ⟨rfl,rfl,rfl,rfl,rfl,trivial⟩ (by simpa [leadL] using st) (by simp) ?_
 clear st
 intro j w hj st
 refine sr ?_
 refine vy (y_lss rfl rfl) ?_
 refine et (vk6 0 1 9 10 11 12 (vc_seq ?_))
 refine vif ?_ ?_
 ·intro hc12
  try simp only [dn] at hc12
  have hj2:j<cl.length:=by omega
  obtain⟨q,hq⟩:∃ q,cl[j]?=some q:=⟨_,List.getElem?_eq_getElem hj2⟩
  have hqm:=List.mem_of_getElem? hq
  have htk:L.op.take (j+1)=L.op.take j++[clO q]:=by
   rw [heq,List.take_add_one,List.getElem?_map,hq];rfl
  have hql:q.at_<L.N.length:=hlt (clO q) (by rw [heq];exact List.mem_map_of_mem hqm)
  obtain⟨qb,qc,hqe,-⟩:=own_form (st.res (i:=2) rfl).1.1 (by omega)
  simp only [Value.slice.injEq,true_and] at hqe
  obtain⟨rfl,rfl⟩:=hqe
  obtain⟨gb,gc,hge,-⟩:=own_form (st.res (i:=1) rfl).1.1 (by rw [leadL_len];omega)
  refine kt (vk5 0 1 9 10 11 (vc_seq (vc_block (sr ?_))))
  refine vy (y_ia0 (k:=j) rfl rfl underlying74 sizeOf124 rfl (by omega)) ?_
  refine vy ((by exact y_ldc rfl isAgg124 (own_cell (st.res (i:=2) rfl).1.1 (by rw [Nat.mul_one,List.getElem?_map,hq];rfl)))) ?_
  refine ya ?_
  refine et (vk6 0 1 5 9 10 11 (vc_region ?_))
  have hne:xb≠gb∧q.c1≠xb∧q.c1≠gb∧q.c2≠xb∧q.c2≠gb∧q.c1≠q.c2:=by
   have e1:(ndR (loS xb gv (.slice (some ⟨qb,0,none⟩) cl.length cq) cl) w0.heap.size gv (leadL (L.op.take j) k L.N)).at?=[gb]:=by rw [frnZ_ats,hge];rfl
   have m1:q.c1∈clB cl:=List.mem_flatMap.2 ⟨q,hqm,by simp⟩
   have m2:q.c2∈clB cl:=List.mem_flatMap.2 ⟨q,hqm,by simp⟩
   have k1:=st.ne (i:=0) (j:=1) (by decide) rfl rfl xb (.head _)
   rw [e1] at k1
   have k2:=fun x hx=>st.ne (i:=3) (j:=0) (by decide) rfl rfl x hx
   have k3:=fun x hx=>st.ne (i:=3) (j:=1) (by decide) rfl rfl x hx
   rw [e1] at k3
   refine⟨fun e=>k1 (by rw [e];exact .head _),fun e=>k2 _ m1 (by rw [e];exact .head _),fun e=>k3 _ m1 (by rw [e];exact .head _),fun e=>k2 _ m2 (by rw [e];exact .head _),fun e=>k3 _ m2 (by rw [e];exact .head _),clo_ne ((st.res (i:=3) rfl).1.1 q hqm)⟩
  iterate 2 refine ym ?_
  refine vc_e (e_callv [_] rfl rfl rfl (cloF_call q.b) rfl (lgo_any c xb gb gc k L.s q (leadL (L.op.take j) k L.N) _ L.ov _ (by rw [← hge];exact st.res (i:=0) rfl) (by rw [← hge];exact(st.res (i:=1) rfl).1.1) hne ((st.res (i:=3) rfl).1.1 q hqm) (by rw [leadL_len];exact hql)) ?_)
  rintro _ w ⟨ho2,cw⟩
  rw [← hge] at ho2
  replace st:=st.swap (i:=1) (r':=ndR (loS xb gv (.slice (some ⟨qb,0,none⟩) cl.length cq) cl) w0.heap.size gv (ptc k (leadL (L.op.take j) k L.N) (clO q))) rfl cw (fun k hk=>by simp only [List.mem_singleton] at hk;subst hk;rw [frnZ_ats,hge];exact .head _) (fun k hk=>by simp only [List.mem_singleton] at hk;subst hk;exact .inl (.tail _ (List.mem_append.2 (.inl (by rw [hge];exact .head _))))) (fun k hk=>.inl hk) (frnZ_holds (by rw [ptc_len];exact ho2) (st.res (i:=1) rfl).1.2)
  dsimp only [setNth] at st
  refine vc_end (vq_block (vq_then (vk5 0 1 9 10 11 (vc_region ?_))))
  refine vy (y_add rfl rfl (by omega:_=((j+1:Nat):Int)) (by omega) (by omega)) ?_
  refine ym ?_
  refine vc_end ?_
  refine vq_again (j+1)  ⟨rfl,rfl,rfl,rfl,rfl,trivial⟩ (by rw [htk,ptc_app];exact st) ?_ ?_
  ·omega
  omega
 intro hc12
 try simp only [dn] at hc12
 have hj2:j=cl.length:=by omega
 subst hj2
 rw [List.take_of_length_le (by rw [heq];simp)] at st
 refine vc_exit (vq_then_exit (vq_then_exit (vq_block_exit (vq_then (vk1 0 (vc_region ?_))))))
 refine ym ?_
 refine ynk ?_
 refine yfz 8 underlying76 sizeOf74 ?_
 refine vc_e (e_st st 0 rfl rfl rfl rfl sizeOf74 rfl rfl (by(left;exact .head _)) ?_)
 intro w st;dsimp only [setNth,wr] at st
 refine vc_end ?_
 refine vq_ret0 (.inr rfl) results55 ?_
 refine⟨_,rfl,?_⟩
 have st2:=((((st.drop (hs':=[loX c xb L.s gv (.slice none 0 0) L.ov,ndR (loS xb gv (.slice oq cl.length cq) cl) w0.heap.size gv (leadL L.op k L.N)]) (.cons_cons _ (.cons_cons _ (.cons _ (.cons _ (List.Sublist.refl _)))))).add (r:=clR (loS xb gv (.slice oq cl.length cq) cl) w0.heap.size xb []) (clR_holds (by simp) (by simp [clB])) (by simp [clR_at,clB])).add (r:=opR (loS xb gv (.slice oq cl.length cq) cl) w0.heap.size (.slice none 0 0) []) (frnZ_holds (World.ownsRow_nil _ _ _ _) (by simp [Value.ownBlock])) (by simp [frnZ_ats,Value.ownBlock])).pick [2,3,0,1] rfl (by decide)).loClose {L with N:=leadL L.op k L.N,op:=[]} rfl (.inl (.head _)) (by simp) (by rw [leadL_len];exact hle)
 exact st2.regDone (i:=0) rfl
theorem lin_any (k:Nat) (w:World):Ret Tryz.prog 111 [.int .i64 (k:Int)] w fun v w'=>v=.agg (vlC (.slot k)).toArray∧Chg [] w w':=by
 refine ret_of [_] func111 rfl ntmps111 rfl ?_
 have st:=St.init w []
 refine sr ?_
 refine vc_e (e_al (l:=[_,_,_]) st rfl rfl zeroValue81 rfl ?_)
 intro b2 w hb2 st
 refine et (vk2 0 2 (sr ?_))
 refine ym ?_
 refine vy (ybd (.agg #[_,_,_]) [(0,_),(1,_)]) ?_
 refine vc_e (ests st 0 [_,_,_] sizeOf81 ?_)
 intro w st;dsimp only [setNth,wr] at st
 refine et (vk1 2 (vc_ret ?_))
 refine vq_ret1 st (.inl rfl) results111 (by exact .cell 0 rfl rfl isAgg81 sizeOf81) ?_
 refine⟨_,rfl,?_⟩
 exact⟨rfl,st.chg⟩
theorem lslot_any (c:Cx) (xb:Nat) (L:LS) (hs:L.s≤1099511627776) (gv qv:Value) (cl:List Clo) (w:World) (h:Lo c xb L gv qv cl w) :
    Ret Tryz.prog 110 [.pointer (some ⟨xb,0,none⟩)] w fun v w'=>v=.int .i64 (L.s:Int)∧RegP (loS xb gv qv cl) (loS xb gv qv cl) (Lo c xb (slotL L) gv qv cl) w w':=by
 refine ret_of [_] func110 rfl ntmps110 rfl ?_
 have st:=St.init w []
 obtain⟨w0,rfl⟩:∃ w0,w0=w:=⟨_,rfl⟩
 replace st:=(St.regInit h.reg).loOpen
 refine sr ?_
 refine ya ?_
 refine et (vk1 0 (sr ?_))
 refine ym ?_
 refine ynk ?_
 refine yfz 4 underlying76 sizeOf43 ?_
 refine vy (y_fa (k:=2) rfl underlying43 rfl rfl sizeOf3 rfl) ?_
 refine yl st 0 isAgg3 ?_
 refine vy (y_add rfl rfl (by omega:_=((L.s+1:Nat):Int)) (by omega) (by omega)) ?_
 refine ynk ?_
 refine yfz 4 underlying76 sizeOf43 ?_
 refine vy (y_fa (k:=2) rfl underlying43 rfl rfl sizeOf3 rfl) ?_
 first
 | refine vc_e (e_st st 0 rfl rfl rfl rfl sizeOf3 rfl rfl (by(left;exact .head _)) ?_)
 intro w st;dsimp only [setNth,wr] at st
 refine et (vk1 0 (sr ?_))
 refine ym ?_
 refine ynk ?_
 refine yfz 4 underlying76 sizeOf43 ?_
 refine vy (y_fa (k:=2) rfl underlying43 rfl rfl sizeOf3 rfl) ?_
 refine yl st 0 isAgg3 ?_
 refine vy (y_sub rfl rfl (by omega:_=((L.s:Nat):Int)) (by omega) (by omega)) ?_
 refine ya ?_
 refine et (vk1 2 (vc_ret ?_))
 refine vr1 st results110 ?_
 refine⟨rfl,(st.loClose (slotL L) ?_ (.inl (.head _)) (h.eq▸h.lt) h.le).regDone (i:=0) rfl⟩
 unfold slotL
 rw [← h.eq]
end Go.Proofs.YtkhpdpenlnhbiaaGreatDoor
