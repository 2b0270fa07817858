/- Parts of the proof of topCorrected_card: the texts MMemo, MFrom, MDiff of the session's own drivers and templates, laid together by a program of the session's own; what the theorem does not come to is left out. -/
import Derived.Carry
import Derived.Deep.DrawnRows
import Derived.Deep.RegionHeld3
import Derived.Outline
import Derived.OwnWalk
import Derived.Test.YteoknahabkoknaaGreatDoorY1
import Derived.Test.YteoknahabkoknaaGreatDoorY2
import Derived.WalkArith
import Derived.WideKeyPair
namespace Go.Proofs.YteoknahabkoknaaGreatDoor.P
open Go.RowKit Go.WideMaps Go.Proofs.YteoknahabkoknaaGreatDoorW.PrintWords Go.Proofs.YteoknahabkoknaaGreatDoorW.PrintLast
set_option linter.unusedVariables false
set_option linter.unusedSimpArgs false
/- proof.diff's memory: a map from two indices to a list of marks; and what the best lists are. -/
def behindO (l : LM) (m : S42) : Option LM := proof_list_behind.f l.1 l.2 m.f0 m.f1 m.f2
def endB (at_ : Int) : List ByteArray → Option LM
 | [] => some (0, [])
 | p :: ps => (endB at_ ps).bind fun l => behindO l ⟨1, at_, p⟩
def rowB (o : ByteArray) (prev : List ByteArray → Option LM) (at_ : Int) : List ByteArray → Option LM
 | [] => (prev []).bind fun l => behindO l ⟨3, at_, ⟨#[]⟩⟩
 | p :: ps => (rowB o prev at_ ps).bind fun l1 => (behindO l1 ⟨1, at_, p⟩).bind fun b1 => (prev (p :: ps)).bind fun l2 => (behindO l2 ⟨3, at_, ⟨#[]⟩⟩).bind fun b2 =>
  (prev ps).bind fun l3 => (behindO l3 ⟨2, at_, p⟩).bind fun b3 => leastL b1 ([b2, b3] ++ if o.toList = p.toList then [l3] else [])
/-- The best list of marks that makes the second page out of the first, whose first line has a number. -/
def bestL : List ByteArray → Int → List ByteArray → Option LM
 | [], at_ => endB at_
 | o :: os, at_ => rowB o (bestL os (at_ + 1)) at_
def bestAt (old page : List ByteArray) (i j : Nat) : Option LM := bestL (old.drop i) i (page.drop j)
theorem arr86 : ArrKey Tryz.prog 86 3 2 := ⟨Tryz.underlying86, by kernel_rfl, by kernel_rfl, by kernel_rfl⟩
theorem law86 : KeyLaw Tryz.prog 86 := arr86.law
theorem some_types : ∃ m, Tryz.prog.types.size = m + 1 := ⟨Tryz.prog.types.size - 1, by kernel_rfl⟩
def keyV (i j : Nat) : Value := .agg #[.int .i64 i, .int .i64 j]
theorem wf_small {a : Int} (h0 : 0 ≤ a) (h1 : a ≤ 1000) : (Lit.int .i64 a).wf = true := WalkArith.wf_i64 (by omega)
theorem keyV_of (i j : Nat) (hi : i ≤ 1000) (hj : j ≤ 1000) : ∃ l, keyOf Tryz.prog 86 (keyV i j) = some l :=
 ⟨_, keyOf_pair arr86 Tryz.underlying3 some_types (wf_small (by omega) (by omega)) (wf_small (by omega) (by omega))⟩
theorem keyV_inj {i j i' j' : Nat} (h : keyV i j = keyV i' j') : i = i' ∧ j = j' := by
 simp only [keyV, Value.agg.injEq] at h
 injection h with h
 injection h with h1 h2
 injection h2 with h2 _
 injection h1 with _ h1
 injection h2 with _ h2
 omega
/-- What an entry holds. -/
def Entry (B : Nat) (old page : List ByteArray) (w : World) (i j : Nat) (x : Value) : Prop := ∃ (l : LM) (v : Value), bestAt old page i j = some l ∧ x = .agg #[.int .i64 l.1, v] ∧ RM B w v l.2
theorem Entry.keep {B : Nat} {old page : List ByteArray} {w w' : World} {i j : Nat} {x : Value} (h : Entry B old page w i j x) (hk : Keep42 w w') : Entry B old page w' i j x := by
 obtain ⟨l, v, h1, h2, h3⟩ := h
 exact ⟨l, v, h1, h2, h3.keep hk⟩
def Memo (B : Nat) (old page : List ByteArray) (w : World) (g : Nat) : Prop := ∃ es cl, w.heap[g]? = some (.map es cl) ∧ ∀ e ∈ es.toList, ∃ i j : Nat, i ≤ 1000 ∧ j ≤ 1000 ∧ e.key = keyV i j ∧ Entry B old page w i j e.val
theorem Memo.keep {B : Nat} {old page : List ByteArray} {w w' : World} {g : Nat} (h : Memo B old page w g) (hk : Keep42 w w') (hg : w'.heap[g]? = w.heap[g]?) : Memo B old page w' g := by
 obtain ⟨es, cl, h1, h2⟩ := h
 refine ⟨es, cl, hg.trans h1, fun e he => ?_⟩
 obtain ⟨i, j, a, b, c, d⟩ := h2 e he
 exact ⟨i, j, a, b, c, d.keep hk⟩
theorem zero85 (w : World) : (zeroValue 85).run Tryz.prog w = .ok (.agg #[.int .i64 0, .slice none 0 0]) w := by kernel_rfl
theorem Memo.keys {B : Nat} {old page : List ByteArray} {w : World} {es : Array MapEntry} (h : ∀ e ∈ es.toList, ∃ i j : Nat, i ≤ 1000 ∧ j ≤ 1000 ∧ e.key = keyV i j ∧ Entry B old page w i j e.val) : ∀ e ∈ es.toList, ∃ l, keyOf Tryz.prog 86 e.key = some l := fun e he => by
 obtain ⟨i, j, a, b, c, d⟩ := h e he
 rw [c]
 exact keyV_of i j a b
theorem Memo.look {B : Nat} {old page : List ByteArray} {w : World} {g : Nat} (h : Memo B old page w g) (i j : Nat) (hi : i ≤ 1000) (hj : j ≤ 1000) :
  (∃ x, (Instr.lookup 82 (.map (some g)) (keyV i j) true).run Tryz.prog w = .ok (.tuple #[x, .bool true]) w ∧ Entry B old page w i j x) ∨
  (Instr.lookup 82 (.map (some g)) (keyV i j) true).run Tryz.prog w = .ok (.tuple #[.agg #[.int .i64 0, .slice none 0 0], .bool false]) w := by
 obtain ⟨es, cl, h1, h2⟩ := h
 obtain ⟨lk, hlk⟩ := keyV_of i j hi hj
 rcases law86.find w hlk es.toList (Memo.keys h2) with ⟨hf, _⟩ | ⟨n, e, hf, he, hk⟩
 ·right
  simp only [Instr.lookup, Sem.run_bind, run_underlying Tryz.underlying82, Result.andThen_ok, MapKept.run_getObj_map h1, law86.check w _ hlk, hf, zero85, Sem.run_pure, if_true]
 ·left
  refine ⟨e.val, ?_, ?_⟩
  ·simp only [Instr.lookup, Sem.run_bind, run_underlying Tryz.underlying82, Result.andThen_ok, MapKept.run_getObj_map h1, law86.check w _ hlk, hf, Sem.run_pure, if_true]
  ·obtain ⟨i', j', _, _, c, d⟩ := h2 e (List.mem_of_getElem? he)
   obtain ⟨rfl, rfl⟩ := keyV_inj (hk.symm.trans c)
   exact d
/-- What a look-up finds, said of every world in which the map's block lies as it lay. -/
theorem Memo.look2 {B : Nat} {old page : List ByteArray} {w : World} {g : Nat} (h : Memo B old page w g) (i j : Nat) (hi : i ≤ 1000) (hj : j ≤ 1000) :
  (∀ w', w'.heap[g]? = w.heap[g]? → Keep42 w w' → ∃ x, (Instr.lookup 82 (.map (some g)) (keyV i j) true).run Tryz.prog w' = .ok (.tuple #[x, .bool true]) w' ∧ Entry B old page w' i j x) ∨
  (∀ w', w'.heap[g]? = w.heap[g]? → (Instr.lookup 82 (.map (some g)) (keyV i j) true).run Tryz.prog w' = .ok (.tuple #[.agg #[.int .i64 0, .slice none 0 0], .bool false]) w') := by
 obtain ⟨es, cl, h1, h2⟩ := h
 obtain ⟨lk, hlk⟩ := keyV_of i j hi hj
 by_cases hex : ∃ e ∈ es.toList, e.key = keyV i j
 ·left
  intro w' hw hk
  obtain ⟨e0, he0, hk0⟩ := hex
  rcases law86.find w' hlk es.toList (Memo.keys h2) with ⟨_, hno⟩ | ⟨n, e, hf, he, hk1⟩
  ·exact absurd hk0 (hno e0 he0)
  ·refine ⟨e.val, ?_, ?_⟩
   ·simp only [Instr.lookup, Sem.run_bind, run_underlying Tryz.underlying82, Result.andThen_ok, MapKept.run_getObj_map (hw.trans h1), law86.check w' _ hlk, hf, Sem.run_pure, if_true]
   ·obtain ⟨i', j', _, _, c, d⟩ := h2 e (List.mem_of_getElem? he)
    obtain ⟨rfl, rfl⟩ := keyV_inj (hk1.symm.trans c)
    exact d.keep hk
 ·right
  intro w' hw
  rcases law86.find w' hlk es.toList (Memo.keys h2) with ⟨hf, _⟩ | ⟨n, e, hf, he, hk1⟩
  ·simp only [Instr.lookup, Sem.run_bind, run_underlying Tryz.underlying82, Result.andThen_ok, MapKept.run_getObj_map (hw.trans h1), law86.check w' _ hlk, hf, zero85, Sem.run_pure, if_true]
  ·exact absurd ⟨e, List.mem_of_getElem? he, hk1⟩ hex
theorem setMap_heap (w : World) (g : Nat) (o : Obj) (hg : g < w.heap.size) : ({ w with heap := w.heap.setIfInBounds g o } : World).heap[g]? = some o := by
 simp [hg]
theorem setMap_grown (w : World) (g : Nat) (o : Obj) : w.grownBy { w with heap := w.heap.setIfInBounds g o } (some g) :=
 ⟨rfl, rfl, rfl, by simp, fun k hk hne => by
  have : g ≠ k := fun e => hne (by rw [e])
  simp [Array.getElem?_setIfInBounds, this]⟩
theorem Keep42.of_map {w w' : World} {g : Nat} {es : Array MapEntry} {cl : Nat} (h : w.heap[g]? = some (.map es cl)) (hg : w.grownBy w' (some g)) : Keep42 w w' :=
 ⟨hg.size, fun k hk ⟨cells, hc⟩ => hg.block k hk (by
  rintro e
  injection e with e
  subst e
  rw [h] at hc
  cases hc)⟩
/-- known[k] = v: some world in which the map has it; and what a look-up then finds. -/
theorem Memo.put {B : Nat} {old page : List ByteArray} {w : World} {g : Nat} (h : Memo B old page w g) (i j : Nat) (hi : i ≤ 1000) (hj : j ≤ 1000) (x : Value) (hx : Entry B old page w i j x) :
  ∃ w', (Instr.mapUpdate 82 (.map (some g)) (keyV i j) x).run Tryz.prog w = .ok () w' ∧ w.grownBy w' (some g) ∧ Keep42 w w' ∧ Memo B old page w' g ∧
   ∃ y, (Instr.lookup 82 (.map (some g)) (keyV i j) false).run Tryz.prog w' = .ok y w' ∧ Entry B old page w' i j y := by
 obtain ⟨es, cl, h1, h2⟩ := h
 have hlt : g < w.heap.size := (Array.getElem?_eq_some_iff.1 h1).1
 obtain ⟨lk, hlk⟩ := keyV_of i j hi hj
 obtain ⟨es', cl', hrun, hall, e0, he0, hk0⟩ : ∃ es' cl', (Instr.mapUpdate 82 (.map (some g)) (keyV i j) x).run Tryz.prog w = .ok () { w with heap := w.heap.setIfInBounds g (.map es' cl') } ∧
   (∀ e ∈ es'.toList, ∃ i j : Nat, i ≤ 1000 ∧ j ≤ 1000 ∧ e.key = keyV i j ∧ Entry B old page w i j e.val) ∧ ∃ e0 ∈ es'.toList, e0.key = keyV i j := by
  rcases law86.find w hlk es.toList (Memo.keys h2) with ⟨hf, _⟩ | ⟨n, e, hf, he, hk⟩
  ·refine ⟨es.push { key := keyV i j, val := x, born := cl }, cl + 1, ?_, ?_, { key := keyV i j, val := x, born := cl }, by simp, rfl⟩
   ·simp only [Instr.mapUpdate, Sem.run_bind, run_underlying Tryz.underlying82, Result.andThen_ok, MapKept.run_getObj_map h1, law86.check w _ hlk, hf]
    exact MapKept.run_setObj_map _ h1
   ·intro e he
    rw [Array.toList_push] at he
    rcases List.mem_append.1 he with he | he
    ·exact h2 e he
    ·rw [List.mem_singleton.1 he]
     exact ⟨i, j, hi, hj, rfl, hx⟩
  ·have hes : es[n]? = some e := by rw [← Array.getElem?_toList]; exact he
   have hn : n < es.size := (Array.getElem?_eq_some_iff.1 hes).1
   have hgd : ((es[n]?).map (·.key)).getD (keyV i j) = keyV i j := by rw [hes]; simp [hk]
   refine ⟨es.modify n fun e => { e with key := keyV i j, val := x }, cl, ?_, ?_, { e with key := keyV i j, val := x }, ?_, rfl⟩
   ·simp only [Instr.mapUpdate, Sem.run_bind, run_underlying Tryz.underlying82, Result.andThen_ok, MapKept.run_getObj_map h1, law86.check w _ hlk, hf, hgd, law86.stays w hlk]
    exact MapKept.run_setObj_map _ h1
   ·intro e' he'
    obtain ⟨m, hm, rfl⟩ := List.mem_iff_getElem.1 he'
    simp only [Array.length_toList, Array.size_modify] at hm
    rw [Array.getElem_toList, Array.getElem_modify]
    split
    ·exact ⟨i, j, hi, hj, rfl, hx⟩
    ·exact h2 _ (by rw [← Array.getElem_toList]; exact List.getElem_mem _)
   ·refine List.mem_iff_getElem.2 ⟨n, by simpa using hn, ?_⟩
    rw [Array.getElem_toList, Array.getElem_modify]
    have : es[n] = e := by
     have := hes
     rw [Array.getElem?_eq_getElem hn] at this
     exact Option.some.inj this
    simp [this]
 have hh := setMap_heap w g (.map es' cl') hlt
 have hgr := setMap_grown w g (.map es' cl')
 generalize ({ w with heap := w.heap.setIfInBounds g (.map es' cl') } : World) = w' at *
 have hkeep : Keep42 w w' := Keep42.of_map h1 hgr
 have hall' : ∀ e ∈ es'.toList, ∃ i j : Nat, i ≤ 1000 ∧ j ≤ 1000 ∧ e.key = keyV i j ∧ Entry B old page w' i j e.val := fun e he => by
  obtain ⟨i, j, a, b, c, d⟩ := hall e he
  exact ⟨i, j, a, b, c, d.keep hkeep⟩
 refine ⟨w', hrun, hgr, hkeep, ⟨es', cl', hh, hall'⟩, ?_⟩
 rcases law86.find w' hlk es'.toList (Memo.keys hall') with ⟨_, hno⟩ | ⟨n, e, hf, he, hk⟩
 ·exact absurd hk0 (hno e0 he0)
 ·refine ⟨e.val, ?_, ?_⟩
  ·simp only [Instr.lookup, Sem.run_bind, run_underlying Tryz.underlying82, Result.andThen_ok, MapKept.run_getObj_map hh, law86.check w' _ hlk, hf, Sem.run_pure, Bool.false_eq_true, if_false]
  ·obtain ⟨i', j', _, _, c, d⟩ := hall' e (List.mem_of_getElem? he)
   obtain ⟨rfl, rfl⟩ := keyV_inj (hk.symm.trans c)
   exact d
end Go.Proofs.YteoknahabkoknaaGreatDoor.P
namespace Go.Proofs.YteoknahabkoknaaGreatDoor.P
open Go.RowKit Go.Proofs.YteoknahabkoknaaGreatDoorW.PrintWords Go.Proofs.YteoknahabkoknaaGreatDoorW.PrintLast
set_option linter.unusedVariables false
set_option linter.unusedSimpArgs false
attribute [local go_sem ↓] Go.wp_at_zero Go.wp_at_succ
/- proof.diff's inner function. -/
/-- What lies when the inner function is called: its four variables and the memory. -/
structure FromSt (B N bk bo bp bf gm co cp : Nat) (Ao Ap : Option Addr) (old page : List ByteArray) (w0 w : World) : Prop where
 k : w.heap[bk]? = some (.cells #[.map (some gm)] 82 (0, 0))
 o : w.heap[bo]? = some (.cells #[.slice Ao old.length co] 25 (0, 0))
 p : w.heap[bp]? = some (.cells #[.slice Ap page.length cp] 25 (0, 0))
 f : w.heap[bf]? = some (.cells #[.func (.func 43) #[] #[.pointer (some ⟨bk, 0, none⟩), .pointer (some ⟨bo, 0, none⟩), .pointer (some ⟨bp, 0, none⟩), .pointer (some ⟨bf, 0, none⟩)]] 83 (0, 0))
 m : Memo B old page w gm
 b : Below B w0 w
 n : bk < N ∧ bo < N ∧ bp < N ∧ bf < N ∧ gm < N ∧ N ≤ w.heap.size ∧ B ≤ N
 g : B ≤ gm
section
variable {B N bk bo bp bf gm co cp : Nat} {Ao Ap : Option Addr} {old page : List ByteArray} {w0 w w' : World}
theorem FromSt.move (h : FromSt B N bk bo bp bf gm co cp Ao Ap old page w0 w) (hb : Below N w w') (hk : Keep42 w w') : FromSt B N bk bo bp bf gm co cp Ao Ap old page w0 w' := by
 obtain ⟨n1, n2, n3, n4, n5, n6, n7⟩ := h.n
 exact ⟨(hb.block _ n1).trans h.k, (hb.block _ n2).trans h.o, (hb.block _ n3).trans h.p, (hb.block _ n4).trans h.f, h.m.keep hk (hb.block _ n5), h.b.trans (hb.mono n7), ⟨n1, n2, n3, n4, n5, Nat.le_trans n6 hb.size, n7⟩, h.g⟩
theorem FromSt.below (h : FromSt B N bk bo bp bf gm co cp Ao Ap old page w0 w) (hb : Below w.heap.size w w') : FromSt B N bk bo bp bf gm co cp Ao Ap old page w0 w' := h.move (hb.mono h.n.2.2.2.2.2.1) (Keep42.of_below hb)
theorem FromSt.map (h : FromSt B N bk bo bp bf gm co cp Ao Ap old page w0 w) (hg : w.grownBy w' (some gm)) : Keep42 w w' := by
 obtain ⟨es, cl, h1, _⟩ := h.m
 exact Keep42.of_map h1 hg
theorem FromSt.ne (h : FromSt B N bk bo bp bf gm co cp Ao Ap old page w0 w) {g : Nat} {cs : Array Value} {t : TypeId} {fr : Nat × Nat} (hg : w.heap[g]? = some (.cells cs t fr)) : some g ≠ some gm := by
 obtain ⟨es, cl, h1, _⟩ := h.m
 rintro e
 injection e with e
 subst e
 rw [h1] at hg
 cases hg
end
theorem grown_of_below_ours {w W : World} {row : Option Nat} (h : Below w.heap.size w W) : w.grownBy W row := ⟨h.os, h.tape, h.output, h.size, fun k hk _ => h.block k hk⟩
/-- The two blocks that each call makes first. -/
theorem first_blocks (w : World) (a b : Int) : ∃ F w1, w.heap.size = F ∧ (w.alloc (.cells #[.int .i64 0, .slice none 0 0] 85)).alloc (.cells #[.int .i64 a, .int .i64 b] 86) = w1 ∧ Below F w w1 ∧
  w1.heap[F]? = some (.cells #[.int .i64 0, .slice none 0 0] 85 (0, 0)) ∧ w1.heap[F + 1]? = some (.cells #[.int .i64 a, .int .i64 b] 86 (0, 0)) := by
 refine ⟨_, _, rfl, rfl, ((Below.refl _ _).alloc (Nat.le_refl _) _).alloc (by simp) _, blk_alloc (blk_new w _) _, ?_⟩
 have := blk_new (w.alloc (.cells #[.int .i64 0, .slice none 0 0] 85)) (.cells #[.int .i64 a, .int .i64 b] 86)
 simpa using this
set_option maxHeartbeats 4000000 in
set_option maxRecDepth 100000 in
theorem from_hit {B N bk bo bp bf gm co cp : Nat} {Ao Ap : Option Addr} {old page : List ByteArray} {w0 : World} (i j : Nat) (a b : Int) (w : World) (r : LM) (hS : FromSt B N bk bo bp bf gm co cp Ao Ap old page w0 w) (hr : bestAt old page i j = some r)
  (hl : ∀ w', Below w.heap.size w w' → ∃ x, (Instr.lookup 82 (.map (some gm)) (.agg #[.int .i64 a, .int .i64 b]) true).run Tryz.prog w' = .ok (.tuple #[x, .bool true]) w' ∧ Entry B old page w' i j x) :
  Calls Tryz.prog 43 #[.int .i64 a, .int .i64 b, .pointer (some ⟨bk, 0, none⟩), .pointer (some ⟨bo, 0, none⟩), .pointer (some ⟨bp, 0, none⟩), .pointer (some ⟨bf, 0, none⟩)] w fun e w' => ∃ v, e = .returned (.agg #[.int .i64 r.1, v]) ∧ RM B w' v r.2 ∧ FromSt B N bk bo bp bf gm co cp Ao Ap old page w0 w' ∧ w.grownBy w' (some gm) := by
 have HS := Aside0.mk hS
 have HL := Aside0.mk hl
 have HRR := Aside0.mk hr
 have hu85 := Tryz.underlying85
 clear hS hl hr
 go_enter Tryz.func43, Tryz.ntmps43
 go_upto_region 2 with fail
 obtain ⟨F, w1, hF, hw1, hb1, f1, f2⟩ := first_blocks w a b
 rw [hw1, hF]
 have hb1' : Below w.heap.size w w1 := by rw [hF]; exact hb1
 have hS1 := HS.out.below hb1'
 obtain ⟨x, hl1, l, v, hb, rfl, hR1⟩ := HL.out w1 hb1'
 rw [HRR.out] at hb
 obtain rfl := Option.some.inj hb
 clear hb HRR
 obtain ⟨A, c, rfl, hc, _⟩ := Kd.R_reads hR1
 have k1 : w1.cell? ⟨bk, 0, none⟩ = some (.map (some gm)) := (blk_cell hS1.k 0).trans rfl
 have k2 : w1.cell? ⟨F + 1, 0, none⟩ = some (.int .i64 a) := (blk_cell f2 0).trans rfl
 have k3 : w1.cell? ⟨F + 1, 1, none⟩ = some (.int .i64 b) := (blk_cell f2 1).trans rfl
 have F1 := Aside0.mk f1
 have HS1 := Aside0.mk hS1
 have HR1 := Aside0.mk hR1
 have HB1 := Aside0.mk hb1'
 have HF := Aside0.mk hF
 clear hw1 hb1 hb1' f1 f2 hS1 hR1 hF
 have hu86 := Tryz.underlying86
 go_upto_region 4 with fail
 obtain ⟨G, hG⟩ : ∃ G, w1.heap.size = G := ⟨_, rfl⟩
 have d1 := blk_new w1 (.cells #[.int .i64 r.1, .slice A r.2.length c] 85)
 have d2 := blk_alloc F1.out (.cells #[.int .i64 r.1, .slice A r.2.length c] 85)
 have d3 : Below w1.heap.size w1 (w1.alloc (.cells #[.int .i64 r.1, .slice A r.2.length c] 85)) := (Below.refl _ _).alloc (Nat.le_refl _) _
 generalize w1.alloc (.cells #[.int .i64 r.1, .slice A r.2.length c] 85) = w2 at *
 rw [hG] at d1 ⊢
 have e1 : w2.cell? ⟨G, 0, none⟩ = some (.int .i64 r.1) := (blk_cell d1 0).trans rfl
 have e2 : w2.cell? ⟨G, 1, none⟩ = some (.slice A r.2.length c) := (blk_cell d1 1).trans rfl
 have e3 : w2.cell? ⟨F, 0, none⟩ = some (.int .i64 0) := (blk_cell d2 0).trans rfl
 have e4 : w2.cell? ⟨F, 1, none⟩ = some (.slice none 0 0) := (blk_cell d2 1).trans rfl
 have e5 := blk_frozen d2 0
 have e6 := blk_frozen d2 1
 have hS2 := HS1.out.below d3
 have hR2 := HR1.out.keep (Keep42.of_below d3)
 have hB2 : Below w.heap.size w w2 := HB1.out.trans (d3.mono HB1.out.size)
 have D2 := Aside0.mk d2
 have HS2 := Aside0.mk hS2
 have HR2 := Aside0.mk hR2
 have HB2 := Aside0.mk hB2
 clear k1 k2 k3 hl1 d1 d2 d3 hS2 hR2 hB2 hG HL
 go_wp2
 have e7 := blk_put (blk_put D2.out 0 (.int .i64 r.1) rfl) 1 (.slice A r.2.length c) rfl
 refine bodyPost_ret (results_single (v := .agg #[.int .i64 r.1, .slice A r.2.length c]) rfl (.cell F 85 #[.int .i64 r.1, .slice A r.2.length c] (0, 0) _ rfl e7 hu85 rfl info85s .nil)) rfl ?_
 have hk3 := (Keep42.set D2.out (by decide) 0 (.int .i64 r.1)).trans (Keep42.set (blk_set D2.out 0 _) (by decide) 1 (.slice A r.2.length c))
 have hN : N ≤ F := by rw [← HF.out]; exact HS.out.n.2.2.2.2.2.1
 have hb3 : Below F w2 ((w2.setCell ⟨F, 0, none⟩ (.int .i64 r.1)).setCell ⟨F, 1, none⟩ (.slice A r.2.length c)) := ((Below.refl F w2).setCell (p := ⟨F, 0, none⟩) (Nat.le_refl F) _).setCell (p := ⟨F, 1, none⟩) (Nat.le_refl F) _
 refine ⟨_, rfl, HR2.out.keep hk3, HS2.out.move (hb3.mono hN) hk3, ?_⟩
 exact grown_of_below_ours (HB2.out.trans (by rw [HF.out]; exact hb3))
/-- Where the inner function stands while it collects lists. -/
structure Mid (B N bk bo bp bf gm co cp : Nat) (Ao Ap : Option Addr) (old page : List ByteArray) (w0 w : World) (F : Nat) (a b : Int) (x : World) (V : Value) (L : List (LM × Value)) : Prop where
 s : FromSt B N bk bo bp bf gm co cp Ao Ap old page w0 x
 d1 : x.heap[F]? = some (.cells #[.int .i64 0, .slice none 0 0] 85 (0, 0))
 d2 : x.heap[F + 1]? = some (.cells #[.int .i64 a, .int .i64 b] 86 (0, 0))
 g : w.grownBy x (some gm)
 r : x.ownsRow (F + 2) 85 2 V L.length (cellsL L)
 l : AllR B x L
 h : F + 2 ≤ x.heap.size
 f : w.heap.size = F
 n : N ≤ F
theorem cellsL_snoc (L : List (LM × Value)) (e : LM × Value) : cellsL (L ++ [e]) = cellsL L ++ [.int .i64 e.1.1, e.2] := by
 induction L with
 | nil => rfl
 | cons x xs ih => simp [cellsL, ih]
theorem grown_more {w a b : World} {g : Nat} {row : Option Nat} (h : w.grownBy a (some g)) (h2 : a.grownBy b row) (hr : ∀ k, row = some k → w.heap.size ≤ k) : w.grownBy b (some g) :=
 ⟨h2.os.trans h.os, h2.tape.trans h.tape, h2.output.trans h.output, Nat.le_trans h.size h2.size, fun k hk hne => (h2.block k (Nat.lt_of_lt_of_le hk h.size) (fun e => by have := hr k e.symm; omega)).trans (h.block k hk hne)⟩
theorem Keep42.of_row {W W' : World} {base n : Nat} {V : Value} {cs : List Value} (h : W.ownsRow base 85 2 V n cs) (hg : W.grownBy W' V.ownBlock) : Keep42 W W' :=
 ⟨hg.size, fun k hk ⟨cells, hc⟩ => hg.block k hk (fun e => by
  obtain ⟨cells2, hc2⟩ := own_typed h k e.symm
  rw [hc2] at hc
  injection hc with hc
  injection hc with _ hc
  cases hc)⟩
section
variable {B N bk bo bp bf gm co cp : Nat} {Ao Ap : Option Addr} {old page : List ByteArray} {w0 w : World} {F : Nat} {a b : Int} {x y : World} {V : Value} {L : List (LM × Value)}
theorem Mid.below (h : Mid B N bk bo bp bf gm co cp Ao Ap old page w0 w F a b x V L) (hb : Below x.heap.size x y) : Mid B N bk bo bp bf gm co cp Ao Ap old page w0 w F a b y V L :=
 ⟨h.s.below hb, blk_below h.d1 hb, blk_below h.d2 hb, grown_more h.g (grown_of_below_ours (row := none) hb) (fun k e => by cases e), own_move h.r (fun k hk => by
  obtain ⟨_, hc⟩ := own_typed h.r k hk
  exact hb.block k (blk_lt hc)), h.l.keep (Keep42.of_below hb), Nat.le_trans h.h hb.size, h.f, h.n⟩
theorem Mid.drew (h : Mid B N bk bo bp bf gm co cp Ao Ap old page w0 w F a b x V L) : Mid B N bk bo bp bf gm co cp Ao Ap old page w0 w F a b x.drew V L := h.below (below_drew1 (Below.refl _ _))
theorem Mid.map (h : Mid B N bk bo bp bf gm co cp Ao Ap old page w0 w F a b x V L) (hs : FromSt B N bk bo bp bf gm co cp Ao Ap old page w0 y) (hg : x.grownBy y (some gm)) : Mid B N bk bo bp bf gm co cp Ao Ap old page w0 w F a b y V L :=
 ⟨hs, blk_grown h.d1 hg (h.s.ne h.d1), blk_grown h.d2 hg (h.s.ne h.d2), h.g.trans hg, own_move h.r (fun k hk => by
  obtain ⟨_, hc⟩ := own_typed h.r k hk
  exact hg.block k (blk_lt hc) (h.s.ne hc)), h.l.keep (h.s.map hg), Nat.le_trans h.h hg.size, h.f, h.n⟩
theorem Mid.append (h : Mid B N bk bo bp bf gm co cp Ao Ap old page w0 w F a b x V L) (m : LM) (u : Value) (hm : RM B x u m.2) {V1 : Value} (ho : y.ownsRow (F + 2) 85 2 V1 (L.length + 1) (cellsL L ++ [.int .i64 m.1, u])) (hg : x.grownBy y V.ownBlock) :
  Mid B N bk bo bp bf gm co cp Ao Ap old page w0 w F a b y V1 (L ++ [(m, u)]) := by
 have hk := Keep42.of_row h.r hg
 have hbase : ∀ k, V.ownBlock = some k → F + 2 ≤ k := fun k hk => own_base h.r k hk
 have hB : Below (F + 2) x y := (Below.refl _ _).grown hg h.h (fun k hk => hbase k hk)
 refine ⟨h.s.move (hB.mono (by have := h.n; omega)) hk, (hB.block _ (by omega)).trans h.d1, (hB.block _ (by omega)).trans h.d2, grown_more h.g hg (fun k e => by have := hbase k e; have := h.f; omega), ?_, ?_, Nat.le_trans h.h hB.size, h.f, h.n⟩
 ·rw [List.length_append, cellsL_snoc]
  exact ho
 ·intro e he
  rcases List.mem_append.1 he with he | he
  ·exact (h.l e he).keep hk
  ·rw [List.mem_singleton.1 he]
   exact hm.keep hk
theorem Mid.put (h : Mid B N bk bo bp bf gm co cp Ao Ap old page w0 w F a b x V L) (i j : Nat) (hij : .agg #[.int .i64 a, .int .i64 b] = keyV i j) (hi : i ≤ 1000) (hj : j ≤ 1000) (r : LM) (u : Value) (hb : bestAt old page i j = some r) (hu : RM B x u r.2) :
  ∃ y A c, (Instr.mapUpdate 82 (.map (some gm)) (.agg #[.int .i64 a, .int .i64 b]) (.agg #[.int .i64 r.1, u])).run Tryz.prog x = .ok () y ∧ Mid B N bk bo bp bf gm co cp Ao Ap old page w0 w F a b y V L ∧ x.grownBy y (some gm) ∧
   (Instr.lookup 82 (.map (some gm)) (.agg #[.int .i64 a, .int .i64 b]) false).run Tryz.prog y = .ok (.agg #[.int .i64 r.1, .slice A r.2.length c]) y ∧ RM B y (.slice A r.2.length c) r.2 := by
 obtain ⟨y, hrun, hg, hk, hm, z, hl, l, v, hb2, rfl, hR⟩ := h.s.m.put i j hi hj _ ⟨r, u, hb, rfl, hu⟩
 rw [hb] at hb2
 obtain rfl := Option.some.inj hb2
 obtain ⟨A, c, rfl, hc, _⟩ := Kd.R_reads hR
 obtain ⟨n1, n2, n3, n4, n5, n6, n7⟩ := h.s.n
 rw [hij]
 refine ⟨y, A, c, hrun, h.map ⟨blk_grown h.s.k hg (h.s.ne h.s.k), blk_grown h.s.o hg (h.s.ne h.s.o), blk_grown h.s.p hg (h.s.ne h.s.p), blk_grown h.s.f hg (h.s.ne h.s.f), hm, h.s.b.grown hg (Nat.le_trans n7 n6) (fun k e => by cases e; exact h.s.g), ⟨n1, n2, n3, n4, n5, Nat.le_trans n6 hg.size, n7⟩, h.s.g⟩ hg, hg, hl, hR⟩
theorem Mid.row (h : Mid B N bk bo bp bf gm co cp Ao Ap old page w0 w F a b x V L) (hL : L ≠ []) : ∃ g cap, V = .slice (some ⟨g, 0, none⟩) L.length cap ∧ L.length ≤ cap ∧ (∀ y : World, y.heap[g]? = x.heap[g]? → ∀ (i : Nat) (hi : i < L.length), y.cell? ⟨g, 2 * i, none⟩ = some (.int .i64 L[i].1.1) ∧ y.cell? ⟨g, 2 * i + 1, none⟩ = some L[i].2) ∧ g < x.heap.size ∧ g ≠ gm ∧ F + 2 ≤ g := by
 obtain ⟨hlen, hor⟩ := h.r
 rcases hor with ⟨_, h0⟩ | ⟨g, cap, cur, rfl, hg, hh, hn, hc, hs, ht⟩
 ·exact absurd (List.eq_nil_of_length_eq_zero h0) hL
 ·refine ⟨g, cap, rfl, hn, ?_, blk_lt hh, fun e => h.s.ne hh (by rw [e]), hg⟩
  intro y hy i hi
  have hy2 : y.heap[g]? = some (.cells cur 85 (0, 0)) := hy.trans hh
  obtain ⟨e1, e2⟩ := cellsL_get L i hi
  rw [← ht] at e1 e2
  rw [List.getElem?_take_of_lt (by omega)] at e1 e2
  rw [Array.getElem?_toList] at e1 e2
  exact ⟨(blk_cell hy2 _).trans e1, (blk_cell hy2 _).trans e2⟩
/-- The end: the result is stored and handed back. -/
theorem Mid.done (h : Mid B N bk bo bp bf gm co cp Ao Ap old page w0 w F a b x V L) (c : Int) (u : Value) (l : List S42) (hu : RM B x u l) :
  RM B ((x.setCell ⟨F, 0, none⟩ (.int .i64 c)).setCell ⟨F, 1, none⟩ u) u l ∧ FromSt B N bk bo bp bf gm co cp Ao Ap old page w0 ((x.setCell ⟨F, 0, none⟩ (.int .i64 c)).setCell ⟨F, 1, none⟩ u) ∧ w.grownBy ((x.setCell ⟨F, 0, none⟩ (.int .i64 c)).setCell ⟨F, 1, none⟩ u) (some gm) ∧
   ((x.setCell ⟨F, 0, none⟩ (.int .i64 c)).setCell ⟨F, 1, none⟩ u).heap[F]? = some (.cells #[.int .i64 c, u] 85 (0, 0)) := by
 have hk3 := (Keep42.set h.d1 (by decide) 0 (.int .i64 c)).trans (Keep42.set (blk_set h.d1 0 _) (by decide) 1 u)
 have hb3 : Below F x ((x.setCell ⟨F, 0, none⟩ (.int .i64 c)).setCell ⟨F, 1, none⟩ u) := ((Below.refl F x).setCell (p := ⟨F, 0, none⟩) (Nat.le_refl F) _).setCell (p := ⟨F, 1, none⟩) (Nat.le_refl F) _
 refine ⟨hu.keep hk3, h.s.move (hb3.mono h.n) hk3, ?_, blk_put (blk_put h.d1 0 _ rfl) 1 _ rfl⟩
 have hf := h.f
 refine grown_more (b := (x.setCell ⟨F, 0, none⟩ (.int .i64 c)).setCell ⟨F, 1, none⟩ u) (row := some F) h.g ⟨hb3.os, hb3.tape, hb3.output, hb3.size, fun k hk hne => ?_⟩ (fun k e => by cases e; omega)
 have : F ≠ k := fun e => hne (by rw [e])
 rw [Below.heap_setCell _ ⟨F, 1, none⟩ _ k (fun e => this e.symm), Below.heap_setCell _ ⟨F, 0, none⟩ _ k (fun e => this e.symm)]
theorem Mid.cell (h : Mid B N bk bo bp bf gm co cp Ao Ap old page w0 w F a b x V L) : x.cell? ⟨bk, 0, none⟩ = some (.map (some gm)) ∧ x.cell? ⟨bo, 0, none⟩ = some (.slice Ao old.length co) ∧ x.cell? ⟨bp, 0, none⟩ = some (.slice Ap page.length cp) ∧
  x.cell? ⟨bf, 0, none⟩ = some (.func (.func 43) #[] #[.pointer (some ⟨bk, 0, none⟩), .pointer (some ⟨bo, 0, none⟩), .pointer (some ⟨bp, 0, none⟩), .pointer (some ⟨bf, 0, none⟩)]) ∧ x.cell? ⟨F + 1, 0, none⟩ = some (.int .i64 a) ∧ x.cell? ⟨F + 1, 1, none⟩ = some (.int .i64 b) :=
 ⟨(blk_cell h.s.k 0).trans rfl, (blk_cell h.s.o 0).trans rfl, (blk_cell h.s.p 0).trans rfl, (blk_cell h.s.f 0).trans rfl, (blk_cell h.d2 0).trans rfl, (blk_cell h.d2 1).trans rfl⟩
end
end Go.Proofs.YteoknahabkoknaaGreatDoor.P
namespace Go.Proofs.YteoknahabkoknaaGreatDoor.P
open Go.RowKit Go.Proofs.YteoknahabkoknaaGreatDoorW.PrintWords Go.Proofs.YteoknahabkoknaaGreatDoorW.PrintLast
set_option linter.unusedVariables false
set_option linter.unusedSimpArgs false
attribute [local go_sem ↓] Go.wp_at_zero Go.wp_at_succ
/- proof.diff's inner function where its memory has nothing yet. Printed by wip/gen_from.py. -/
theorem info85 : (Tryz.prog.info? 85).map (fun i => (i.zero, i.size, i.bytes)) = some (some (.agg #[.int .i64 0, .slice none 0 0]), 2, 32) := by kernel_rfl
theorem RM.nil (B : Nat) (w : World) : RM B w (.slice none 0 0) [] := Kd.R_nil _ _ _ _ _
section
variable {B N bk bo bp bf gm co cp : Nat} {Ao Ap : Option Addr} {old page : List ByteArray} {w0 w w' : World}
theorem RM.of_new (h : FromSt B N bk bo bp bf gm co cp Ao Ap old page w0 w) {v : Value} {l : List S42} (hr : Kd.R k42 42 w' w.heap.size (fun _ => True) v l) : RM B w' v l := Kd.R_lower hr (Nat.le_trans h.n.2.2.2.2.2.2 h.n.2.2.2.2.2.1)
end
theorem RM.drew {B : Nat} {w : World} {v : Value} {l : List S42} (h : RM B w v l) : RM B w.drew v l := Kd.R_drew h
theorem RM.of_new2 {B : Nat} {w' : World} {v : Value} {l : List S42} (hr : RM B w' v l) : RM B w' v l := hr
theorem slice_tail {n cap : Nat} (g : Nat) (hn : 2 ≤ n) (hc : n ≤ cap) (W : World) : (Instr.slice 88 (.slice (some ⟨g, 0, none⟩) n cap) (some (.int .i64 1)) none none).run Tryz.prog W = .ok (.slice (some ⟨g, 2, none⟩) (n - 1) (cap - 1)) W := by
 have hel : Tryz.prog.elem 88 = 85 := by simp [Program.elem, Tryz.underlying88]
 obtain ⟨i0, hi0, hz⟩ := Option.map_eq_some_iff.1 info85
 simp only [Prod.mk.injEq] at hz
 rw [run_slice_l W 88 _ n cap (by rw [hel]; exact Tryz.underlying88) .i64 1 (by omega) (by omega), hel]
 simp [sizeOf, typeInfo, hi0, hz.2.1, sliced, Result.andThen, show cap ≠ 1 by omega, Addr.add]
theorem slice_one {n cap : Nat} (g : Nat) (hc : n ≤ cap) : ∃ A c, ∀ W, (Instr.slice 88 (.slice (some ⟨g, 0, none⟩) 1 cap) (some (.int .i64 1)) none none).run Tryz.prog W = .ok (.slice A 0 c) W := by
 have hel : Tryz.prog.elem 88 = 85 := by simp [Program.elem, Tryz.underlying88]
 obtain ⟨i0, hi0, hz⟩ := Option.map_eq_some_iff.1 info85
 simp only [Prod.mk.injEq] at hz
 refine ⟨if cap = 1 then some ⟨g, 0, none⟩ else some ⟨g, 2, none⟩, cap - 1, fun W => ?_⟩
 rw [run_slice_l W 88 _ 1 cap (by rw [hel]; exact Tryz.underlying88) .i64 1 (by omega) (by omega), hel]
 simp [sizeOf, typeInfo, hi0, hz.2.1, sliced, Result.andThen, Addr.add]
set_option maxHeartbeats 8000000 in
set_option maxRecDepth 100000 in
theorem from_end {B N bk bo bp bf gm co cp : Nat} {Ao Ap : Option Addr} {ado adp : Addr} {old page : List ByteArray} {w0 : World} (i j : Nat) (a b a1 b1 : Int) (pp po : ByteArray) (l1 l2 l3 m1 m2 m3 r : LM) (w : World) (hAo : True) (hAp : True) (hS : FromSt B N bk bo bp bf gm co cp Ao Ap old page w0 w)
  (ha0 : 0 ≤ a) (hb0 : 0 ≤ b) (hij : .agg #[.int .i64 a, .int .i64 b] = keyV i j) (hi : i ≤ 1000) (hj : j ≤ 1000) (hbest : bestAt old page i j = some r)
  (hlk : ∀ w', Below w.heap.size w w' → (Instr.lookup 82 (.map (some gm)) (.agg #[.int .i64 a, .int .i64 b]) true).run Tryz.prog w' = .ok (.tuple #[.agg #[.int .i64 0, .slice none 0 0], .bool false]) w')
  (hble : ¬ b < (page.length : Int))
  (hale : ¬ a < (old.length : Int)) (hae : (a == (old.length : Int)) = true)
  (hbe : (b == (page.length : Int)) = true)
  (hl : Aside0 (leastL (0, []) [] = some r))
  : Calls Tryz.prog 43 #[.int .i64 a, .int .i64 b, .pointer (some ⟨bk, 0, none⟩), .pointer (some ⟨bo, 0, none⟩), .pointer (some ⟨bp, 0, none⟩), .pointer (some ⟨bf, 0, none⟩)] w fun e w' => ∃ v, e = .returned (.agg #[.int .i64 r.1, v]) ∧ RM B w' v r.2 ∧ FromSt B N bk bo bp bf gm co cp Ao Ap old page w0 w' ∧ w.grownBy w' (some gm) := by
 have HS := Aside0.mk hS
 have HL := Aside0.mk hlk
 have HIJ := Aside0.mk hij
 have HBEST := Aside0.mk hbest
 have hu85 := Tryz.underlying85
 have hu86 := Tryz.underlying86
 have HIJ2 := Aside0.mk (And.intro hi hj)
 clear hS hlk hij hbest hi hj
 go_enter Tryz.func43, Tryz.ntmps43
 go_upto_region 2 with fail
 obtain ⟨F, w1, hF, hw1, hb1', f1, f2⟩ := first_blocks w a b
 rw [hw1, hF]
 have hb2' : Below w.heap.size w w1 := by rw [hF]; exact hb1'
 have hS1 := HS.out.below hb2'
 have hl1 := HL.out w1 hb2'
 have k1 : w1.cell? ⟨bk, 0, none⟩ = some (.map (some gm)) := (blk_cell hS1.k 0).trans rfl
 have k2 : w1.cell? ⟨F + 1, 0, none⟩ = some (.int .i64 a) := (blk_cell f2 0).trans rfl
 have k3 : w1.cell? ⟨F + 1, 1, none⟩ = some (.int .i64 b) := (blk_cell f2 1).trans rfl
 have hN : N ≤ F := by rw [← hF]; exact HS.out.n.2.2.2.2.2.1
 have HM := Aside0.mk (show Mid B N bk bo bp bf gm co cp Ao Ap old page w0 w F a b w1 (.slice none 0 0) [] from ⟨hS1, f1, f2, grown_of_below_ours hb2', ⟨by simp [cellsL], .inl ⟨rfl, rfl⟩⟩, fun e he => by simp at he, (by have := blk_lt f2; omega), hF, hN⟩)
 have hF' := Aside0.mk hF
 clear hw1 hb1' hb2' f1 f2 hS1 hF hN HL HS
 go_upto_region 5 with fail
 have d3 : Below w1.heap.size w1 (w1.alloc (.cells #[.int .i64 0, .slice none 0 0] 85)) := (Below.refl _ _).alloc (Nat.le_refl _) _
 have HM2 := Aside0.mk (HM.out.below d3)
 generalize w1.alloc (.cells #[.int .i64 0, .slice none 0 0] 85) = x0 at *
 clear k1 k2 k3 hl1 d3 HM
 obtain ⟨G, hG⟩ : ∃ G, w1.heap.size = G := ⟨_, rfl⟩
 rw [hG]
 clear hG
 obtain ⟨k1, k2, k3, k4, k5, k6⟩ := HM2.out.cell
 go_upto_region 17 with (first | (at_builtin; refine print_append_cells (w0 := _) (F + 2) rfl (.tmp 35) (.tmp 37) 88 85 (.agg #[.int .i64 0, .slice none 0 0]) 2 32 rfl Tryz.underlying88 info85 rfl (by decide) (by omega) (.slice none 0 0) ([] : List (LM × Value)).length (cellsL []) [.int .i64 ((0, []) : LM).1, .slice none 0 0] rfl rfl rfl (by simp [Value.oneCell']) HM2.out.r (Below.refl _ _) HM2.out.h (by simp) ?_; intro V1 x1 ho1 hB1 hg1 hat1; have hX1 := HM2.out.append ((0, []) : LM) _ (RM.nil B _) ho1 hg1; clear ho1 hB1 hg1 hat1); clear k1 k2 k3 k4 k5 k6; obtain ⟨k1, k2, k3, k4, k5, k6⟩ := hX1.cell)
 have HX1 := Aside0.mk hX1
 clear hX1 k1 k2 k3 k4 k5 k6 HM2
 obtain ⟨g, cap, hV, hcap, hrow, hg1, hg2, hg3⟩ := HX1.out.row (by simp)
 have hVn : V1 = .slice (some ⟨g, 0, none⟩) 1 cap := by simpa using hV
 have hcapn : 1 ≤ cap := by simpa using hcap
 have q1 := (hrow x1 rfl 0 (by simp)).1
 have q2 := (hrow x1 rfl 0 (by simp)).2
 simp only [List.nil_append, List.cons_append, List.getElem_cons_zero, Nat.mul_zero, Nat.zero_add] at q1 q2
 rw [hVn]
 have HROW := Aside0.mk hrow
 have hca : (1 : Int) ≤ (cap : Int) := by omega
 clear hV hrow hcap
 obtain ⟨k1, k2, k3, k4, k5, k6⟩ := HX1.out.cell
 clear k2 k3 k4
 obtain ⟨A9, c9, hsl⟩ := slice_one (n := 1) (cap := cap) g (by omega)
 have gh : g ≠ F + 1 := by omega
 have hles : ∀ W, Mid B N bk bo bp bf gm co cp Ao Ap old page w0 w F a b W V1 ([] ++ [(((0, []) : LM), .slice none 0 0)]) → Aside0 (W.heap[g]? = x1.heap[g]?) → Calls Tryz.prog 45 #[.func (.func 46) #[] #[], .agg #[.int .i64 ((0, []) : LM).1, .slice none 0 0], .slice A9 0 c9] W fun e w' => ∃ v, e = .returned (.agg #[.int .i64 r.1, v]) ∧ RM B w' v r.2 ∧ Below W.heap.size W w' := by
  intro W hW hWg
  refine least_calls B g 2 0 c9 A9 ((0, []) : LM) r (.slice none 0 0) [] W (Nat.le_trans hW.s.n.2.2.2.2.2.2 hW.s.n.2.2.2.2.2.1) rfl (by decide) (hW.l (((0, []) : LM), .slice none 0 0) (by simp)) (fun e he => hW.l e (by simp at he)) ?_ (fun h => absurd rfl h) hl.out
  intro i hi
  simp at hi
 have HLES := Aside0.mk hles
 clear hles HROW
 go_region_held3 (fun w' => w'.cell? ⟨bk, 0, none⟩ = some (.map (some gm)) ∧ w'.cell? ⟨F + 1, 0, none⟩ = some (.int .i64 a) ∧ w'.cell? ⟨F + 1, 1, none⟩ = some (.int .i64 b) ∧ w'.cell? ⟨g, 0, none⟩ = some (.int .i64 ((0, []) : LM).1) ∧ w'.cell? ⟨g, 1, none⟩ = some (.slice none 0 0))
  (first | exact ⟨(HX1.out.drew).cell.1, (HX1.out.drew).cell.2.2.2.2.1, (HX1.out.drew).cell.2.2.2.2.2, q1, q2⟩ | exact ⟨(hMl).cell.1, (hMl).cell.2.2.2.2.1, (hMl).cell.2.2.2.2.2, ql1, ql2⟩ | exact ⟨(hMp).cell.1, (hMp).cell.2.2.2.2.1, (hMp).cell.2.2.2.2.2, qp1, qp2⟩)
  ((go_at_call 45; refine (HLES.out _ HX1.out.drew ⟨rfl⟩).mono ?_; rintro e w8 ⟨u8, rfl, hR8, hb8⟩; have hMl := HX1.out.drew.below hb8; have ql1 := (hb8.cell (show g < x1.drew.heap.size from hg1)).trans q1; have ql2 := (hb8.cell (show g < x1.drew.heap.size from hg1)).trans q2; obtain ⟨w9, A8, c8, hput, hMp, hgp, hlook, hRp⟩ := hMl.put i j HIJ.out HIJ2.out.1 HIJ2.out.2 r u8 HBEST.out hR8; have qp1 := (World.cell?_of_block (hgp.block g (Nat.lt_of_lt_of_le hg1 hb8.size) (fun e => by injection e with e; exact hg2 e))).trans ql1; have qp2 := (World.cell?_of_block (hgp.block g (Nat.lt_of_lt_of_le hg1 hb8.size) (fun e => by injection e with e; exact hg2 e))).trans ql2; clear hb8 hR8))
 have HMP := Aside0.mk hMp
 have HRP := Aside0.mk hRp
 rename_i hHeld_; clear hHeld_
 clear hMp hRp hgp hput hMl ql1 ql2 qp1 qp2 q1 q2 hsl k1 k5 k6
 obtain ⟨k1, k2, k3, k4, k5, k6⟩ := HMP.out.cell
 clear k2 k3 k4
 have e3 : w9.cell? ⟨F, 0, none⟩ = some (.int .i64 0) := (blk_cell HMP.out.d1 0).trans rfl
 have e4 : w9.cell? ⟨F, 1, none⟩ = some (.slice none 0 0) := (blk_cell HMP.out.d1 1).trans rfl
 have e5 := blk_frozen HMP.out.d1 0
 have e6 := blk_frozen HMP.out.d1 1
 go_wp2
 obtain ⟨p1, p2, p3, p4⟩ := HMP.out.done r.1 (.slice A8 r.2.length c8) r.2 HRP.out
 refine bodyPost_ret (results_single (v := .agg #[.int .i64 r.1, .slice A8 r.2.length c8]) rfl (.cell F 85 #[.int .i64 r.1, .slice A8 r.2.length c8] (0, 0) _ rfl p4 hu85 rfl info85s .nil)) rfl ?_
 exact ⟨_, rfl, p1, p2, p3⟩
set_option maxHeartbeats 8000000 in
set_option maxRecDepth 100000 in
theorem from_put {B N bk bo bp bf gm co cp : Nat} {Ao Ap : Option Addr} {ado adp : Addr} {old page : List ByteArray} {w0 : World} (i j : Nat) (a b a1 b1 : Int) (pp po : ByteArray) (l1 l2 l3 m1 m2 m3 r : LM) (w : World) (hAo : True) (hAp : Ap = some adp) (hS : FromSt B N bk bo bp bf gm co cp Ao Ap old page w0 w)
  (ha0 : 0 ≤ a) (hb0 : 0 ≤ b) (hij : .agg #[.int .i64 a, .int .i64 b] = keyV i j) (hi : i ≤ 1000) (hj : j ≤ 1000) (hbest : bestAt old page i j = some r)
  (hlk : ∀ w', Below w.heap.size w w' → (Instr.lookup 82 (.map (some gm)) (.agg #[.int .i64 a, .int .i64 b]) true).run Tryz.prog w' = .ok (.tuple #[.agg #[.int .i64 0, .slice none 0 0], .bool false]) w')
  (hb1 : wrap64 (b + 1) = b1) (hblt : b < (page.length : Int))
  (c1 : Aside0 (∀ W, FromSt B N bk bo bp bf gm co cp Ao Ap old page w0 W → Calls Tryz.prog 43 #[.int .i64 a, .int .i64 b1, .pointer (some ⟨bk, 0, none⟩), .pointer (some ⟨bo, 0, none⟩), .pointer (some ⟨bp, 0, none⟩), .pointer (some ⟨bf, 0, none⟩)] W fun e w' => ∃ v, e = .returned (.agg #[.int .i64 l1.1, v]) ∧ RM B w' v l1.2 ∧ FromSt B N bk bo bp bf gm co cp Ao Ap old page w0 w' ∧ W.grownBy w' (some gm))) (h1 : Aside0 (behindO l1 ⟨1, a, pp⟩ = some m1))
  (hcp : Aside0 (∀ W, Below B w0 W → W.cell? (adp.add b.toNat) = some (.string pp)))
  (hale : ¬ a < (old.length : Int)) (hae : (a == (old.length : Int)) = true)
  (hbe : (b == (page.length : Int)) = false)
  (hl : Aside0 (leastL m1 [] = some r))
  : Calls Tryz.prog 43 #[.int .i64 a, .int .i64 b, .pointer (some ⟨bk, 0, none⟩), .pointer (some ⟨bo, 0, none⟩), .pointer (some ⟨bp, 0, none⟩), .pointer (some ⟨bf, 0, none⟩)] w fun e w' => ∃ v, e = .returned (.agg #[.int .i64 r.1, v]) ∧ RM B w' v r.2 ∧ FromSt B N bk bo bp bf gm co cp Ao Ap old page w0 w' ∧ w.grownBy w' (some gm) := by
 subst hAp
 have HS := Aside0.mk hS
 have HL := Aside0.mk hlk
 have HIJ := Aside0.mk hij
 have HBEST := Aside0.mk hbest
 have hu85 := Tryz.underlying85
 have hu86 := Tryz.underlying86
 have hb1i : IntKind.i64.wrap (b + 1) = b1 := by rw [i64_w]; exact hb1
 have HIJ2 := Aside0.mk (And.intro hi hj)
 clear hS hlk hij hbest hi hj
 go_enter Tryz.func43, Tryz.ntmps43
 go_upto_region 2 with fail
 obtain ⟨F, w1, hF, hw1, hb1', f1, f2⟩ := first_blocks w a b
 rw [hw1, hF]
 have hb2' : Below w.heap.size w w1 := by rw [hF]; exact hb1'
 have hS1 := HS.out.below hb2'
 have hl1 := HL.out w1 hb2'
 have k1 : w1.cell? ⟨bk, 0, none⟩ = some (.map (some gm)) := (blk_cell hS1.k 0).trans rfl
 have k2 : w1.cell? ⟨F + 1, 0, none⟩ = some (.int .i64 a) := (blk_cell f2 0).trans rfl
 have k3 : w1.cell? ⟨F + 1, 1, none⟩ = some (.int .i64 b) := (blk_cell f2 1).trans rfl
 have hN : N ≤ F := by rw [← hF]; exact HS.out.n.2.2.2.2.2.1
 have HM := Aside0.mk (show Mid B N bk bo bp bf gm co cp Ao (some adp) old page w0 w F a b w1 (.slice none 0 0) [] from ⟨hS1, f1, f2, grown_of_below_ours hb2', ⟨by simp [cellsL], .inl ⟨rfl, rfl⟩⟩, fun e he => by simp at he, (by have := blk_lt f2; omega), hF, hN⟩)
 have hF' := Aside0.mk hF
 clear hw1 hb1' hb2' f1 f2 hS1 hF hN HL HS
 go_upto_region 5 with fail
 have d3 : Below w1.heap.size w1 (w1.alloc (.cells #[.int .i64 0, .slice none 0 0] 85)) := (Below.refl _ _).alloc (Nat.le_refl _) _
 have HM2 := Aside0.mk (HM.out.below d3)
 generalize w1.alloc (.cells #[.int .i64 0, .slice none 0 0] 85) = x0 at *
 clear k1 k2 k3 hl1 d3 HM
 obtain ⟨G, hG⟩ : ∃ G, w1.heap.size = G := ⟨_, rfl⟩
 rw [hG]
 clear hG
 obtain ⟨k1, k2, k3, k4, k5, k6⟩ := HM2.out.cell
 go_upto_region 9 with fail
 have hp := hcp.out _ HM2.out.s.b
 have gp0 : (0 : Int) ≤ b := hb0
 go_region_held3 (fun w' => w'.cell? ⟨bf, 0, none⟩ = some (.func (.func 43) #[] #[.pointer (some ⟨bk, 0, none⟩), .pointer (some ⟨bo, 0, none⟩), .pointer (some ⟨bp, 0, none⟩), .pointer (some ⟨bf, 0, none⟩)]) ∧ w'.cell? ⟨bp, 0, none⟩ = some (.slice (some adp) page.length cp) ∧ w'.cell? (adp.add b.toNat) = some (.string pp))
  (first | exact ⟨(HM2.out.drew).cell.2.2.2.1, (HM2.out.drew).cell.2.2.1, hcp.out _ (HM2.out.drew).s.b⟩ | exact ⟨(hM1).cell.2.2.2.1, (hM1).cell.2.2.1, hcp.out _ (hM1).s.b⟩ | exact ⟨(hN1).cell.2.2.2.1, (hN1).cell.2.2.1, hcp.out _ (hN1).s.b⟩ | exact ⟨(hN1.below ((Below.refl _ _).alloc (Nat.le_refl _) _)).cell.2.2.2.1, (hN1.below ((Below.refl _ _).alloc (Nat.le_refl _) _)).cell.2.2.1, hcp.out _ (hN1.below ((Below.refl _ _).alloc (Nat.le_refl _) _)).s.b⟩ | exact ⟨(hX1).cell.2.2.2.1, (hX1).cell.2.2.1, hcp.out _ (hX1).s.b⟩)
  (first | (go_at_call 43; refine (c1.out _ HM2.out.drew.s).mono ?_; rintro e y1 ⟨u1, rfl, hR1, hS1, hG1⟩; have hM1 := HM2.out.drew.map hS1 hG1; obtain ⟨A1, q1, rfl, hq1, hC1⟩ := Kd.R_reads hR1; clear hS1 hG1) | (go_at_call 44; refine (proof_list_behind.calls l1.1 A1 q1 l1.2 1 a pp m1.1 m1.2 _ hC1 hq1 h1.out).mono ?_; rintro e z1 ⟨t1, rfl, hT1, hb1⟩; have hN1 := hM1.below hb1; have hU1 := RM.of_new hM1.s hT1; obtain ⟨C1, e1, rfl⟩ := Kd.R_slice hT1; clear hb1 hT1) | (refine step_append_cells (w0 := _) (F + 2) (by rfl) (.tmp 43) (.tmp 56) 88 85 (.agg #[.int .i64 0, .slice none 0 0]) 2 32 rfl Tryz.underlying88 info85 rfl (by decide) (by omega) (.slice none 0 0) ([] : List (LM × Value)).length (cellsL []) [.int .i64 m1.1, .slice C1 m1.2.length e1] (by rfl) (by rfl) rfl (by simp [Value.oneCell']) hN1.r (Below.refl _ _) hN1.h (by simp) ?_; intro V1 x1 ho1 hB1 hg1 hat1; have hX1 := hN1.append m1 _ hU1 ho1 hg1; clear ho1 hB1 hg1 hat1))
 have HX1 := Aside0.mk hX1
 clear hX1 hN1 hM1 hU1 hR1 hq1 hC1 HM2 k1 k2 k3 k4 k5 k6 hp
 obtain ⟨k1, k2, k3, k4, k5, k6⟩ := HX1.out.cell
 rename_i hHeld_; clear hHeld_
 go_upto_region 17 with fail
 clear k1 k2 k3 k4 k5 k6
 obtain ⟨g, cap, hV, hcap, hrow, hg1, hg2, hg3⟩ := HX1.out.row (by simp)
 have hVn : V1 = .slice (some ⟨g, 0, none⟩) 1 cap := by simpa using hV
 have hcapn : 1 ≤ cap := by simpa using hcap
 have q1 := (hrow x1 rfl 0 (by simp)).1
 have q2 := (hrow x1 rfl 0 (by simp)).2
 simp only [List.nil_append, List.cons_append, List.getElem_cons_zero, Nat.mul_zero, Nat.zero_add] at q1 q2
 rw [hVn]
 have HROW := Aside0.mk hrow
 have hca : (1 : Int) ≤ (cap : Int) := by omega
 clear hV hrow hcap
 obtain ⟨k1, k2, k3, k4, k5, k6⟩ := HX1.out.cell
 clear k2 k3 k4
 obtain ⟨A9, c9, hsl⟩ := slice_one (n := 1) (cap := cap) g (by omega)
 have gh : g ≠ F + 1 := by omega
 have hles : ∀ W, Mid B N bk bo bp bf gm co cp Ao (some adp) old page w0 w F a b W V1 ([] ++ [(m1, .slice C1 m1.2.length e1)]) → Aside0 (W.heap[g]? = x1.heap[g]?) → Calls Tryz.prog 45 #[.func (.func 46) #[] #[], .agg #[.int .i64 m1.1, .slice C1 m1.2.length e1], .slice A9 0 c9] W fun e w' => ∃ v, e = .returned (.agg #[.int .i64 r.1, v]) ∧ RM B w' v r.2 ∧ Below W.heap.size W w' := by
  intro W hW hWg
  refine least_calls B g 2 0 c9 A9 m1 r (.slice C1 m1.2.length e1) [] W (Nat.le_trans hW.s.n.2.2.2.2.2.2 hW.s.n.2.2.2.2.2.1) rfl (by decide) (hW.l (m1, .slice C1 m1.2.length e1) (by simp)) (fun e he => hW.l e (by simp at he)) ?_ (fun h => absurd rfl h) hl.out
  intro i hi
  simp at hi
 have HLES := Aside0.mk hles
 clear hles HROW
 go_region_held3 (fun w' => w'.cell? ⟨bk, 0, none⟩ = some (.map (some gm)) ∧ w'.cell? ⟨F + 1, 0, none⟩ = some (.int .i64 a) ∧ w'.cell? ⟨F + 1, 1, none⟩ = some (.int .i64 b) ∧ w'.cell? ⟨g, 0, none⟩ = some (.int .i64 m1.1) ∧ w'.cell? ⟨g, 1, none⟩ = some (.slice C1 m1.2.length e1))
  (first | exact ⟨(HX1.out.drew).cell.1, (HX1.out.drew).cell.2.2.2.2.1, (HX1.out.drew).cell.2.2.2.2.2, q1, q2⟩ | exact ⟨(hMl).cell.1, (hMl).cell.2.2.2.2.1, (hMl).cell.2.2.2.2.2, ql1, ql2⟩ | exact ⟨(hMp).cell.1, (hMp).cell.2.2.2.2.1, (hMp).cell.2.2.2.2.2, qp1, qp2⟩)
  ((go_at_call 45; refine (HLES.out _ HX1.out.drew ⟨rfl⟩).mono ?_; rintro e w8 ⟨u8, rfl, hR8, hb8⟩; have hMl := HX1.out.drew.below hb8; have ql1 := (hb8.cell (show g < x1.drew.heap.size from hg1)).trans q1; have ql2 := (hb8.cell (show g < x1.drew.heap.size from hg1)).trans q2; obtain ⟨w9, A8, c8, hput, hMp, hgp, hlook, hRp⟩ := hMl.put i j HIJ.out HIJ2.out.1 HIJ2.out.2 r u8 HBEST.out hR8; have qp1 := (World.cell?_of_block (hgp.block g (Nat.lt_of_lt_of_le hg1 hb8.size) (fun e => by injection e with e; exact hg2 e))).trans ql1; have qp2 := (World.cell?_of_block (hgp.block g (Nat.lt_of_lt_of_le hg1 hb8.size) (fun e => by injection e with e; exact hg2 e))).trans ql2; clear hb8 hR8))
 have HMP := Aside0.mk hMp
 have HRP := Aside0.mk hRp
 rename_i hHeld_; clear hHeld_
 clear hMp hRp hgp hput hMl ql1 ql2 qp1 qp2 q1 q2 hsl k1 k5 k6
 obtain ⟨k1, k2, k3, k4, k5, k6⟩ := HMP.out.cell
 clear k2 k3 k4
 have e3 : w9.cell? ⟨F, 0, none⟩ = some (.int .i64 0) := (blk_cell HMP.out.d1 0).trans rfl
 have e4 : w9.cell? ⟨F, 1, none⟩ = some (.slice none 0 0) := (blk_cell HMP.out.d1 1).trans rfl
 have e5 := blk_frozen HMP.out.d1 0
 have e6 := blk_frozen HMP.out.d1 1
 go_wp2
 obtain ⟨p1, p2, p3, p4⟩ := HMP.out.done r.1 (.slice A8 r.2.length c8) r.2 HRP.out
 refine bodyPost_ret (results_single (v := .agg #[.int .i64 r.1, .slice A8 r.2.length c8]) rfl (.cell F 85 #[.int .i64 r.1, .slice A8 r.2.length c8] (0, 0) _ rfl p4 hu85 rfl info85s .nil)) rfl ?_
 exact ⟨_, rfl, p1, p2, p3⟩
set_option maxHeartbeats 8000000 in
set_option maxRecDepth 100000 in
theorem from_take {B N bk bo bp bf gm co cp : Nat} {Ao Ap : Option Addr} {ado adp : Addr} {old page : List ByteArray} {w0 : World} (i j : Nat) (a b a1 b1 : Int) (pp po : ByteArray) (l1 l2 l3 m1 m2 m3 r : LM) (w : World) (hAo : Ao = some ado) (hAp : True) (hS : FromSt B N bk bo bp bf gm co cp Ao Ap old page w0 w)
  (ha0 : 0 ≤ a) (hb0 : 0 ≤ b) (hij : .agg #[.int .i64 a, .int .i64 b] = keyV i j) (hi : i ≤ 1000) (hj : j ≤ 1000) (hbest : bestAt old page i j = some r)
  (hlk : ∀ w', Below w.heap.size w w' → (Instr.lookup 82 (.map (some gm)) (.agg #[.int .i64 a, .int .i64 b]) true).run Tryz.prog w' = .ok (.tuple #[.agg #[.int .i64 0, .slice none 0 0], .bool false]) w')
  (hble : ¬ b < (page.length : Int))
  (ha1 : wrap64 (a + 1) = a1) (halt : a < (old.length : Int)) (hae : (a == (old.length : Int)) = false)
  (c2 : Aside0 (∀ W, FromSt B N bk bo bp bf gm co cp Ao Ap old page w0 W → Calls Tryz.prog 43 #[.int .i64 a1, .int .i64 b, .pointer (some ⟨bk, 0, none⟩), .pointer (some ⟨bo, 0, none⟩), .pointer (some ⟨bp, 0, none⟩), .pointer (some ⟨bf, 0, none⟩)] W fun e w' => ∃ v, e = .returned (.agg #[.int .i64 l2.1, v]) ∧ RM B w' v l2.2 ∧ FromSt B N bk bo bp bf gm co cp Ao Ap old page w0 w' ∧ W.grownBy w' (some gm))) (h2 : Aside0 (behindO l2 ⟨3, a, ⟨#[]⟩⟩ = some m2))
  (hl : Aside0 (leastL m2 [] = some r))
  : Calls Tryz.prog 43 #[.int .i64 a, .int .i64 b, .pointer (some ⟨bk, 0, none⟩), .pointer (some ⟨bo, 0, none⟩), .pointer (some ⟨bp, 0, none⟩), .pointer (some ⟨bf, 0, none⟩)] w fun e w' => ∃ v, e = .returned (.agg #[.int .i64 r.1, v]) ∧ RM B w' v r.2 ∧ FromSt B N bk bo bp bf gm co cp Ao Ap old page w0 w' ∧ w.grownBy w' (some gm) := by
 subst hAo
 have HS := Aside0.mk hS
 have HL := Aside0.mk hlk
 have HIJ := Aside0.mk hij
 have HBEST := Aside0.mk hbest
 have hu85 := Tryz.underlying85
 have hu86 := Tryz.underlying86
 have ha1i : IntKind.i64.wrap (a + 1) = a1 := by rw [i64_w]; exact ha1
 have HIJ2 := Aside0.mk (And.intro hi hj)
 clear hS hlk hij hbest hi hj
 go_enter Tryz.func43, Tryz.ntmps43
 go_upto_region 2 with fail
 obtain ⟨F, w1, hF, hw1, hb1', f1, f2⟩ := first_blocks w a b
 rw [hw1, hF]
 have hb2' : Below w.heap.size w w1 := by rw [hF]; exact hb1'
 have hS1 := HS.out.below hb2'
 have hl1 := HL.out w1 hb2'
 have k1 : w1.cell? ⟨bk, 0, none⟩ = some (.map (some gm)) := (blk_cell hS1.k 0).trans rfl
 have k2 : w1.cell? ⟨F + 1, 0, none⟩ = some (.int .i64 a) := (blk_cell f2 0).trans rfl
 have k3 : w1.cell? ⟨F + 1, 1, none⟩ = some (.int .i64 b) := (blk_cell f2 1).trans rfl
 have hN : N ≤ F := by rw [← hF]; exact HS.out.n.2.2.2.2.2.1
 have HM := Aside0.mk (show Mid B N bk bo bp bf gm co cp (some ado) Ap old page w0 w F a b w1 (.slice none 0 0) [] from ⟨hS1, f1, f2, grown_of_below_ours hb2', ⟨by simp [cellsL], .inl ⟨rfl, rfl⟩⟩, fun e he => by simp at he, (by have := blk_lt f2; omega), hF, hN⟩)
 have hF' := Aside0.mk hF
 clear hw1 hb1' hb2' f1 f2 hS1 hF hN HL HS
 go_upto_region 5 with fail
 have d3 : Below w1.heap.size w1 (w1.alloc (.cells #[.int .i64 0, .slice none 0 0] 85)) := (Below.refl _ _).alloc (Nat.le_refl _) _
 have HM2 := Aside0.mk (HM.out.below d3)
 generalize w1.alloc (.cells #[.int .i64 0, .slice none 0 0] 85) = x0 at *
 clear k1 k2 k3 hl1 d3 HM
 obtain ⟨G, hG⟩ : ∃ G, w1.heap.size = G := ⟨_, rfl⟩
 rw [hG]
 clear hG
 obtain ⟨k1, k2, k3, k4, k5, k6⟩ := HM2.out.cell
 go_upto_region 17 with (first | (go_at_call 43; refine (c2.out _ HM2.out.s).mono ?_; rintro e y2 ⟨u2, rfl, hR2, hS2, hG2⟩; have hM2 := HM2.out.map hS2 hG2; obtain ⟨A2, q2, rfl, hq2, hC2⟩ := Kd.R_reads hR2; clear hS2 hG2) | (go_at_call 44; refine (proof_list_behind.calls l2.1 A2 q2 l2.2 3 a ⟨#[]⟩ m2.1 m2.2 _ hC2 hq2 h2.out).mono ?_; rintro e z2 ⟨t2, rfl, hT2, hb2⟩; have hN2 := hM2.below hb2; have hU2 := RM.of_new hM2.s hT2; obtain ⟨C2, e2, rfl⟩ := Kd.R_slice hT2; clear hb2 hT2) | (at_builtin; refine print_append_cells (w0 := _) (F + 2) rfl (.tmp 62) (.tmp 71) 88 85 (.agg #[.int .i64 0, .slice none 0 0]) 2 32 rfl Tryz.underlying88 info85 rfl (by decide) (by omega) (.slice none 0 0) ([] : List (LM × Value)).length (cellsL []) [.int .i64 m2.1, .slice C2 m2.2.length e2] rfl rfl rfl (by simp [Value.oneCell']) hN2.r (Below.refl _ _) hN2.h (by simp) ?_; intro V2 x2 ho2 hB2 hg2 hat2; have hX2 := hN2.append m2 _ hU2 ho2 hg2; clear ho2 hB2 hg2 hat2; clear k1 k2 k3 k4 k5 k6; obtain ⟨k1, k2, k3, k4, k5, k6⟩ := hX2.cell))
 have HX2 := Aside0.mk hX2
 clear hX2 hN2 hM2 hU2 hR2 hq2 hC2 HM2
 clear k1 k2 k3 k4 k5 k6
 obtain ⟨g, cap, hV, hcap, hrow, hg1, hg2, hg3⟩ := HX2.out.row (by simp)
 have hVn : V2 = .slice (some ⟨g, 0, none⟩) 1 cap := by simpa using hV
 have hcapn : 1 ≤ cap := by simpa using hcap
 have q1 := (hrow x2 rfl 0 (by simp)).1
 have q2 := (hrow x2 rfl 0 (by simp)).2
 simp only [List.nil_append, List.cons_append, List.getElem_cons_zero, Nat.mul_zero, Nat.zero_add] at q1 q2
 rw [hVn]
 have HROW := Aside0.mk hrow
 have hca : (1 : Int) ≤ (cap : Int) := by omega
 clear hV hrow hcap
 obtain ⟨k1, k2, k3, k4, k5, k6⟩ := HX2.out.cell
 clear k2 k3 k4
 obtain ⟨A9, c9, hsl⟩ := slice_one (n := 1) (cap := cap) g (by omega)
 have gh : g ≠ F + 1 := by omega
 have hles : ∀ W, Mid B N bk bo bp bf gm co cp (some ado) Ap old page w0 w F a b W V2 ([] ++ [(m2, .slice C2 m2.2.length e2)]) → Aside0 (W.heap[g]? = x2.heap[g]?) → Calls Tryz.prog 45 #[.func (.func 46) #[] #[], .agg #[.int .i64 m2.1, .slice C2 m2.2.length e2], .slice A9 0 c9] W fun e w' => ∃ v, e = .returned (.agg #[.int .i64 r.1, v]) ∧ RM B w' v r.2 ∧ Below W.heap.size W w' := by
  intro W hW hWg
  refine least_calls B g 2 0 c9 A9 m2 r (.slice C2 m2.2.length e2) [] W (Nat.le_trans hW.s.n.2.2.2.2.2.2 hW.s.n.2.2.2.2.2.1) rfl (by decide) (hW.l (m2, .slice C2 m2.2.length e2) (by simp)) (fun e he => hW.l e (by simp at he)) ?_ (fun h => absurd rfl h) hl.out
  intro i hi
  simp at hi
 have HLES := Aside0.mk hles
 clear hles HROW
 go_region_held3 (fun w' => w'.cell? ⟨bk, 0, none⟩ = some (.map (some gm)) ∧ w'.cell? ⟨F + 1, 0, none⟩ = some (.int .i64 a) ∧ w'.cell? ⟨F + 1, 1, none⟩ = some (.int .i64 b) ∧ w'.cell? ⟨g, 0, none⟩ = some (.int .i64 m2.1) ∧ w'.cell? ⟨g, 1, none⟩ = some (.slice C2 m2.2.length e2))
  (first | exact ⟨(HX2.out.drew).cell.1, (HX2.out.drew).cell.2.2.2.2.1, (HX2.out.drew).cell.2.2.2.2.2, q1, q2⟩ | exact ⟨(hMl).cell.1, (hMl).cell.2.2.2.2.1, (hMl).cell.2.2.2.2.2, ql1, ql2⟩ | exact ⟨(hMp).cell.1, (hMp).cell.2.2.2.2.1, (hMp).cell.2.2.2.2.2, qp1, qp2⟩)
  ((go_at_call 45; refine (HLES.out _ HX2.out.drew ⟨rfl⟩).mono ?_; rintro e w8 ⟨u8, rfl, hR8, hb8⟩; have hMl := HX2.out.drew.below hb8; have ql1 := (hb8.cell (show g < x2.drew.heap.size from hg1)).trans q1; have ql2 := (hb8.cell (show g < x2.drew.heap.size from hg1)).trans q2; obtain ⟨w9, A8, c8, hput, hMp, hgp, hlook, hRp⟩ := hMl.put i j HIJ.out HIJ2.out.1 HIJ2.out.2 r u8 HBEST.out hR8; have qp1 := (World.cell?_of_block (hgp.block g (Nat.lt_of_lt_of_le hg1 hb8.size) (fun e => by injection e with e; exact hg2 e))).trans ql1; have qp2 := (World.cell?_of_block (hgp.block g (Nat.lt_of_lt_of_le hg1 hb8.size) (fun e => by injection e with e; exact hg2 e))).trans ql2; clear hb8 hR8))
 have HMP := Aside0.mk hMp
 have HRP := Aside0.mk hRp
 rename_i hHeld_; clear hHeld_
 clear hMp hRp hgp hput hMl ql1 ql2 qp1 qp2 q1 q2 hsl k1 k5 k6
 obtain ⟨k1, k2, k3, k4, k5, k6⟩ := HMP.out.cell
 clear k2 k3 k4
 have e3 : w9.cell? ⟨F, 0, none⟩ = some (.int .i64 0) := (blk_cell HMP.out.d1 0).trans rfl
 have e4 : w9.cell? ⟨F, 1, none⟩ = some (.slice none 0 0) := (blk_cell HMP.out.d1 1).trans rfl
 have e5 := blk_frozen HMP.out.d1 0
 have e6 := blk_frozen HMP.out.d1 1
 go_wp2
 obtain ⟨p1, p2, p3, p4⟩ := HMP.out.done r.1 (.slice A8 r.2.length c8) r.2 HRP.out
 refine bodyPost_ret (results_single (v := .agg #[.int .i64 r.1, .slice A8 r.2.length c8]) rfl (.cell F 85 #[.int .i64 r.1, .slice A8 r.2.length c8] (0, 0) _ rfl p4 hu85 rfl info85s .nil)) rfl ?_
 exact ⟨_, rfl, p1, p2, p3⟩
set_option maxHeartbeats 8000000 in
set_option maxRecDepth 100000 in
theorem from_both {B N bk bo bp bf gm co cp : Nat} {Ao Ap : Option Addr} {ado adp : Addr} {old page : List ByteArray} {w0 : World} (i j : Nat) (a b a1 b1 : Int) (pp po : ByteArray) (l1 l2 l3 m1 m2 m3 r : LM) (w : World) (hAo : Ao = some ado) (hAp : Ap = some adp) (hS : FromSt B N bk bo bp bf gm co cp Ao Ap old page w0 w)
  (ha0 : 0 ≤ a) (hb0 : 0 ≤ b) (hij : .agg #[.int .i64 a, .int .i64 b] = keyV i j) (hi : i ≤ 1000) (hj : j ≤ 1000) (hbest : bestAt old page i j = some r)
  (hlk : ∀ w', Below w.heap.size w w' → (Instr.lookup 82 (.map (some gm)) (.agg #[.int .i64 a, .int .i64 b]) true).run Tryz.prog w' = .ok (.tuple #[.agg #[.int .i64 0, .slice none 0 0], .bool false]) w')
  (hb1 : wrap64 (b + 1) = b1) (hblt : b < (page.length : Int))
  (c1 : Aside0 (∀ W, FromSt B N bk bo bp bf gm co cp Ao Ap old page w0 W → Calls Tryz.prog 43 #[.int .i64 a, .int .i64 b1, .pointer (some ⟨bk, 0, none⟩), .pointer (some ⟨bo, 0, none⟩), .pointer (some ⟨bp, 0, none⟩), .pointer (some ⟨bf, 0, none⟩)] W fun e w' => ∃ v, e = .returned (.agg #[.int .i64 l1.1, v]) ∧ RM B w' v l1.2 ∧ FromSt B N bk bo bp bf gm co cp Ao Ap old page w0 w' ∧ W.grownBy w' (some gm))) (h1 : Aside0 (behindO l1 ⟨1, a, pp⟩ = some m1))
  (hcp : Aside0 (∀ W, Below B w0 W → W.cell? (adp.add b.toNat) = some (.string pp)))
  (ha1 : wrap64 (a + 1) = a1) (halt : a < (old.length : Int)) (hae : (a == (old.length : Int)) = false)
  (c2 : Aside0 (∀ W, FromSt B N bk bo bp bf gm co cp Ao Ap old page w0 W → Calls Tryz.prog 43 #[.int .i64 a1, .int .i64 b, .pointer (some ⟨bk, 0, none⟩), .pointer (some ⟨bo, 0, none⟩), .pointer (some ⟨bp, 0, none⟩), .pointer (some ⟨bf, 0, none⟩)] W fun e w' => ∃ v, e = .returned (.agg #[.int .i64 l2.1, v]) ∧ RM B w' v l2.2 ∧ FromSt B N bk bo bp bf gm co cp Ao Ap old page w0 w' ∧ W.grownBy w' (some gm))) (h2 : Aside0 (behindO l2 ⟨3, a, ⟨#[]⟩⟩ = some m2))
  (c3 : Aside0 (∀ W, FromSt B N bk bo bp bf gm co cp Ao Ap old page w0 W → Calls Tryz.prog 43 #[.int .i64 a1, .int .i64 b1, .pointer (some ⟨bk, 0, none⟩), .pointer (some ⟨bo, 0, none⟩), .pointer (some ⟨bp, 0, none⟩), .pointer (some ⟨bf, 0, none⟩)] W fun e w' => ∃ v, e = .returned (.agg #[.int .i64 l3.1, v]) ∧ RM B w' v l3.2 ∧ FromSt B N bk bo bp bf gm co cp Ao Ap old page w0 w' ∧ W.grownBy w' (some gm))) (h3 : Aside0 (behindO l3 ⟨2, a, pp⟩ = some m3))
  (hco : Aside0 (∀ W, Below B w0 W → W.cell? (ado.add a.toNat) = some (.string po)))
  (heq : (po.toList == pp.toList) = true)
  (hl : Aside0 (leastL m1 [m2, m3, l3] = some r))
  : Calls Tryz.prog 43 #[.int .i64 a, .int .i64 b, .pointer (some ⟨bk, 0, none⟩), .pointer (some ⟨bo, 0, none⟩), .pointer (some ⟨bp, 0, none⟩), .pointer (some ⟨bf, 0, none⟩)] w fun e w' => ∃ v, e = .returned (.agg #[.int .i64 r.1, v]) ∧ RM B w' v r.2 ∧ FromSt B N bk bo bp bf gm co cp Ao Ap old page w0 w' ∧ w.grownBy w' (some gm) := by
 subst hAo
 subst hAp
 have HS := Aside0.mk hS
 have HL := Aside0.mk hlk
 have HIJ := Aside0.mk hij
 have HBEST := Aside0.mk hbest
 have hu85 := Tryz.underlying85
 have hu86 := Tryz.underlying86
 have hb1i : IntKind.i64.wrap (b + 1) = b1 := by rw [i64_w]; exact hb1
 have ha1i : IntKind.i64.wrap (a + 1) = a1 := by rw [i64_w]; exact ha1
 have HIJ2 := Aside0.mk (And.intro hi hj)
 clear hS hlk hij hbest hi hj
 go_enter Tryz.func43, Tryz.ntmps43
 go_upto_region 2 with fail
 obtain ⟨F, w1, hF, hw1, hb1', f1, f2⟩ := first_blocks w a b
 rw [hw1, hF]
 have hb2' : Below w.heap.size w w1 := by rw [hF]; exact hb1'
 have hS1 := HS.out.below hb2'
 have hl1 := HL.out w1 hb2'
 have k1 : w1.cell? ⟨bk, 0, none⟩ = some (.map (some gm)) := (blk_cell hS1.k 0).trans rfl
 have k2 : w1.cell? ⟨F + 1, 0, none⟩ = some (.int .i64 a) := (blk_cell f2 0).trans rfl
 have k3 : w1.cell? ⟨F + 1, 1, none⟩ = some (.int .i64 b) := (blk_cell f2 1).trans rfl
 have hN : N ≤ F := by rw [← hF]; exact HS.out.n.2.2.2.2.2.1
 have HM := Aside0.mk (show Mid B N bk bo bp bf gm co cp (some ado) (some adp) old page w0 w F a b w1 (.slice none 0 0) [] from ⟨hS1, f1, f2, grown_of_below_ours hb2', ⟨by simp [cellsL], .inl ⟨rfl, rfl⟩⟩, fun e he => by simp at he, (by have := blk_lt f2; omega), hF, hN⟩)
 have hF' := Aside0.mk hF
 clear hw1 hb1' hb2' f1 f2 hS1 hF hN HL HS
 go_upto_region 5 with fail
 have d3 : Below w1.heap.size w1 (w1.alloc (.cells #[.int .i64 0, .slice none 0 0] 85)) := (Below.refl _ _).alloc (Nat.le_refl _) _
 have HM2 := Aside0.mk (HM.out.below d3)
 generalize w1.alloc (.cells #[.int .i64 0, .slice none 0 0] 85) = x0 at *
 clear k1 k2 k3 hl1 d3 HM
 obtain ⟨G, hG⟩ : ∃ G, w1.heap.size = G := ⟨_, rfl⟩
 rw [hG]
 clear hG
 obtain ⟨k1, k2, k3, k4, k5, k6⟩ := HM2.out.cell
 go_upto_region 9 with fail
 have hp := hcp.out _ HM2.out.s.b
 have gp0 : (0 : Int) ≤ b := hb0
 go_region_held3 (fun w' => w'.cell? ⟨bf, 0, none⟩ = some (.func (.func 43) #[] #[.pointer (some ⟨bk, 0, none⟩), .pointer (some ⟨bo, 0, none⟩), .pointer (some ⟨bp, 0, none⟩), .pointer (some ⟨bf, 0, none⟩)]) ∧ w'.cell? ⟨bp, 0, none⟩ = some (.slice (some adp) page.length cp) ∧ w'.cell? (adp.add b.toNat) = some (.string pp))
  (first | exact ⟨(HM2.out.drew).cell.2.2.2.1, (HM2.out.drew).cell.2.2.1, hcp.out _ (HM2.out.drew).s.b⟩ | exact ⟨(hM1).cell.2.2.2.1, (hM1).cell.2.2.1, hcp.out _ (hM1).s.b⟩ | exact ⟨(hN1).cell.2.2.2.1, (hN1).cell.2.2.1, hcp.out _ (hN1).s.b⟩ | exact ⟨(hN1.below ((Below.refl _ _).alloc (Nat.le_refl _) _)).cell.2.2.2.1, (hN1.below ((Below.refl _ _).alloc (Nat.le_refl _) _)).cell.2.2.1, hcp.out _ (hN1.below ((Below.refl _ _).alloc (Nat.le_refl _) _)).s.b⟩ | exact ⟨(hX1).cell.2.2.2.1, (hX1).cell.2.2.1, hcp.out _ (hX1).s.b⟩)
  (first | (go_at_call 43; refine (c1.out _ HM2.out.drew.s).mono ?_; rintro e y1 ⟨u1, rfl, hR1, hS1, hG1⟩; have hM1 := HM2.out.drew.map hS1 hG1; obtain ⟨A1, q1, rfl, hq1, hC1⟩ := Kd.R_reads hR1; clear hS1 hG1) | (go_at_call 44; refine (proof_list_behind.calls l1.1 A1 q1 l1.2 1 a pp m1.1 m1.2 _ hC1 hq1 h1.out).mono ?_; rintro e z1 ⟨t1, rfl, hT1, hb1⟩; have hN1 := hM1.below hb1; have hU1 := RM.of_new hM1.s hT1; obtain ⟨C1, e1, rfl⟩ := Kd.R_slice hT1; clear hb1 hT1) | (refine step_append_cells (w0 := _) (F + 2) (by rfl) (.tmp 43) (.tmp 56) 88 85 (.agg #[.int .i64 0, .slice none 0 0]) 2 32 rfl Tryz.underlying88 info85 rfl (by decide) (by omega) (.slice none 0 0) ([] : List (LM × Value)).length (cellsL []) [.int .i64 m1.1, .slice C1 m1.2.length e1] (by rfl) (by rfl) rfl (by simp [Value.oneCell']) hN1.r (Below.refl _ _) hN1.h (by simp) ?_; intro V1 x1 ho1 hB1 hg1 hat1; have hX1 := hN1.append m1 _ hU1 ho1 hg1; clear ho1 hB1 hg1 hat1))
 have HX1 := Aside0.mk hX1
 clear hX1 hN1 hM1 hU1 hR1 hq1 hC1 HM2 k1 k2 k3 k4 k5 k6 hp
 obtain ⟨k1, k2, k3, k4, k5, k6⟩ := HX1.out.cell
 rename_i hHeld_; clear hHeld_
 go_upto_region 13 with (first | (go_at_call 43; refine (c2.out _ HX1.out.s).mono ?_; rintro e y2 ⟨u2, rfl, hR2, hS2, hG2⟩; have hM2 := HX1.out.map hS2 hG2; obtain ⟨A2, q2, rfl, hq2, hC2⟩ := Kd.R_reads hR2; clear hS2 hG2) | (go_at_call 44; refine (proof_list_behind.calls l2.1 A2 q2 l2.2 3 a ⟨#[]⟩ m2.1 m2.2 _ hC2 hq2 h2.out).mono ?_; rintro e z2 ⟨t2, rfl, hT2, hb2⟩; have hN2 := hM2.below hb2; have hU2 := RM.of_new hM2.s hT2; obtain ⟨C2, e2, rfl⟩ := Kd.R_slice hT2; clear hb2 hT2) | (at_builtin; refine print_append_cells (w0 := _) (F + 2) rfl (.tmp 62) (.tmp 71) 88 85 (.agg #[.int .i64 0, .slice none 0 0]) 2 32 rfl Tryz.underlying88 info85 rfl (by decide) (by omega) V1 (([] ++ [(m1, .slice C1 m1.2.length e1)]) : List (LM × Value)).length (cellsL ([] ++ [(m1, .slice C1 m1.2.length e1)])) [.int .i64 m2.1, .slice C2 m2.2.length e2] rfl rfl rfl (by simp [Value.oneCell']) hN2.r (Below.refl _ _) hN2.h (by simp) ?_; intro V2 x2 ho2 hB2 hg2 hat2; have hX2 := hN2.append m2 _ hU2 ho2 hg2; clear ho2 hB2 hg2 hat2; clear k1 k2 k3 k4 k5 k6; obtain ⟨k1, k2, k3, k4, k5, k6⟩ := hX2.cell))
 have HX2 := Aside0.mk hX2
 clear hX2 hN2 hM2 hU2 hR2 hq2 hC2 HX1
 go_upto_region 14 with (go_at_call 43; refine (c3.out _ HX2.out.s).mono ?_; rintro e y3 ⟨u3, rfl, hR3, hS3, hG3⟩; have hM3 := HX2.out.map hS3 hG3; obtain ⟨A3, q3, rfl, hq3, hC3⟩ := Kd.R_reads hR3; clear hS3 hG3)
 have hHb := blk_new y3 (.cells #[.int .i64 l3.1, .slice A3 l3.2.length q3] 85)
 have hd := (Below.refl _ y3).alloc (Nat.le_refl _) (.cells #[.int .i64 l3.1, .slice A3 l3.2.length q3] 85)
 have hM4 := hM3.below hd
 have hR4 := RM.keep (B := B) (RM.of_new2 hR3) (Keep42.of_below hd)
 have hlt4 : ∀ k, V2.ownBlock = some k → k ≠ y3.heap.size := fun k hk => Nat.ne_of_lt (by obtain ⟨_, hc⟩ := own_typed hM3.r k hk; exact blk_lt hc)
 generalize y3.alloc (.cells #[.int .i64 l3.1, .slice A3 l3.2.length q3] 85) = x4 at *
 obtain ⟨H, hH⟩ : ∃ H, y3.heap.size = H := ⟨_, rfl⟩
 rw [hH] at hHb hlt4 ⊢
 have HM4 := Aside0.mk hM4
 have HHB := Aside0.mk hHb
 have HR4 := Aside0.mk hR4
 have HLT := Aside0.mk hlt4
 clear hM4 hHb hR4 hlt4 hH hd hM3 hR3 hC3 k1 k2 k3 k4 k5 k6 HX2
 have h40 : x4.cell? ⟨H, 0, none⟩ = some (.int .i64 l3.1) := (blk_cell HHB.out 0).trans rfl
 have h41 : x4.cell? ⟨H, 1, none⟩ = some (.slice A3 l3.2.length q3) := (blk_cell HHB.out 1).trans rfl
 obtain ⟨k1, k2, k3, k4, k5, k6⟩ := HM4.out.cell
 have hp := hcp.out _ HM4.out.s.b
 have hC4 : Kd.C k42 x4 A3 l3.2.length l3.2 := by obtain ⟨A, c, e, _, hC⟩ := Kd.R_reads HR4.out; injection e with e1 _ _; rw [e1]; exact hC
 have HC4 := Aside0.mk hC4
 clear hC4
 go_region_held3 (fun w' => w'.cell? ⟨H, 0, none⟩ = some (.int .i64 l3.1) ∧ w'.cell? ⟨H, 1, none⟩ = some (.slice A3 l3.2.length q3) ∧ w'.cell? ⟨bp, 0, none⟩ = some (.slice (some adp) page.length cp) ∧ w'.cell? (adp.add b.toNat) = some (.string pp))
  (first | exact ⟨(blk_cell (blk_drew HHB.out) 0).trans rfl, (blk_cell (blk_drew HHB.out) 1).trans rfl, (HM4.out.drew).cell.2.2.1, hcp.out _ (HM4.out.drew).s.b⟩ | exact ⟨(blk_cell (hHz) 0).trans rfl, (blk_cell (hHz) 1).trans rfl, (hN3).cell.2.2.1, hcp.out _ (hN3).s.b⟩ | exact ⟨(blk_cell (blk_alloc hHz _) 0).trans rfl, (blk_cell (blk_alloc hHz _) 1).trans rfl, (hN3.below ((Below.refl _ _).alloc (Nat.le_refl _) _)).cell.2.2.1, hcp.out _ (hN3.below ((Below.refl _ _).alloc (Nat.le_refl _) _)).s.b⟩ | exact ⟨(blk_cell (hHx) 0).trans rfl, (blk_cell (hHx) 1).trans rfl, (hX3).cell.2.2.1, hcp.out _ (hX3).s.b⟩)
  (first | (go_at_call 44; refine (proof_list_behind.calls l3.1 A3 q3 l3.2 2 a pp m3.1 m3.2 _ (Kd.C_drew HC4.out) hq3 h3.out).mono ?_; rintro e z3 ⟨t3, rfl, hT3, hb3⟩; have hN3 := HM4.out.drew.below hb3; have hU3 := RM.of_new HM4.out.drew.s hT3; have hHz := blk_below (blk_drew HHB.out) hb3; have hR5 := (RM.drew HR4.out).keep (Keep42.of_below hb3); obtain ⟨C3, e3, rfl⟩ := Kd.R_slice hT3; clear hb3 hT3) | (refine step_append_cells (w0 := _) (F + 2) (by rfl) (.tmp 89) (.tmp 98) 88 85 (.agg #[.int .i64 0, .slice none 0 0]) 2 32 rfl Tryz.underlying88 info85 rfl (by decide) (by omega) V2 ((([] ++ [(m1, .slice C1 m1.2.length e1)]) ++ [(m2, .slice C2 m2.2.length e2)]) : List (LM × Value)).length (cellsL (([] ++ [(m1, .slice C1 m1.2.length e1)]) ++ [(m2, .slice C2 m2.2.length e2)])) [.int .i64 m3.1, .slice C3 m3.2.length e3] (by rfl) (by rfl) rfl (by simp [Value.oneCell']) hN3.r (Below.refl _ _) hN3.h (by simp) ?_; intro V3 x3 ho3 hB3 hg3 hat3; have hX3 := hN3.append m3 _ hU3 ho3 hg3; have hHx := blk_grown hHz hg3 (fun e => HLT.out _ e.symm rfl); have hR6 := hR5.keep (Keep42.of_row hN3.r hg3); clear ho3 hB3 hg3 hat3))
 have HX3 := Aside0.mk hX3
 have HR6 := Aside0.mk hR6
 clear hX3 hN3 hU3 hHz hR5 hR6 HM4 HHB HR4 HLT HC4 h40 h41 k1 k2 k3 k4 k5 k6 hp
 rename_i hHeld_; clear hHeld_
 have h40 : x3.cell? ⟨H, 0, none⟩ = some (.int .i64 l3.1) := (blk_cell hHx 0).trans rfl
 have h41 : x3.cell? ⟨H, 1, none⟩ = some (.slice A3 l3.2.length q3) := (blk_cell hHx 1).trans rfl
 clear hHx
 obtain ⟨k1, k2, k3, k4, k5, k6⟩ := HX3.out.cell
 have hp := hcp.out _ HX3.out.s.b
 have ho := hco.out _ HX3.out.s.b
 have gp1 : (0 : Int) ≤ a := ha0
 go_upto_region 15 with fail
 go_quiet (fail)
 have HX5 := Aside0.mk (HX3.out.below (pw_below_drewN (Below.refl _ _) nq))
 have HR7 := Aside0.mk (HR6.out.keep (Keep42.of_below (pw_below_drewN (Below.refl _ _) nq)))
 have h50 : (x3.drewN nq).cell? ⟨H, 0, none⟩ = some (.int .i64 l3.1) := h40
 have h51 : (x3.drewN nq).cell? ⟨H, 1, none⟩ = some (.slice A3 l3.2.length q3) := h41
 clear h40 h41 hp ho k1 k2 k3 k4 k5 k6 HX3 HR6
 generalize x3.drewN nq = x5 at HX5 HR7 h50 h51 ⊢
 go_upto_region 17 with (first | (at_builtin; refine print_append_cells (w0 := _) (F + 2) rfl (.tmp 109) (.tmp 111) 88 85 (.agg #[.int .i64 0, .slice none 0 0]) 2 32 rfl Tryz.underlying88 info85 rfl (by decide) (by omega) V3 (((([] ++ [(m1, .slice C1 m1.2.length e1)]) ++ [(m2, .slice C2 m2.2.length e2)]) ++ [(m3, .slice C3 m3.2.length e3)]) : List (LM × Value)).length (cellsL ((([] ++ [(m1, .slice C1 m1.2.length e1)]) ++ [(m2, .slice C2 m2.2.length e2)]) ++ [(m3, .slice C3 m3.2.length e3)])) [.int .i64 l3.1, .slice A3 l3.2.length q3] rfl rfl rfl (by simp [Value.oneCell']) HX5.out.r (Below.refl _ _) HX5.out.h (by simp) ?_; intro V4 x4 ho4 hB4 hg4 hat4; have hX4 := HX5.out.append l3 _ HR7.out ho4 hg4; clear ho4 hB4 hg4 hat4))
 have HX4 := Aside0.mk hX4
 clear hX4 HX5
 clear h50 h51 HR7
 obtain ⟨g, cap, hV, hcap, hrow, hg1, hg2, hg3⟩ := HX4.out.row (by simp)
 have hVn : V4 = .slice (some ⟨g, 0, none⟩) 4 cap := by simpa using hV
 have hcapn : 4 ≤ cap := by simpa using hcap
 have q1 := (hrow x4 rfl 0 (by simp)).1
 have q2 := (hrow x4 rfl 0 (by simp)).2
 simp only [List.nil_append, List.cons_append, List.getElem_cons_zero, Nat.mul_zero, Nat.zero_add] at q1 q2
 rw [hVn]
 have HROW := Aside0.mk hrow
 have hca : (4 : Int) ≤ (cap : Int) := by omega
 clear hV hrow hcap
 obtain ⟨k1, k2, k3, k4, k5, k6⟩ := HX4.out.cell
 clear k2 k3 k4
 have hsl := slice_tail (n := 4) (cap := cap) g (by omega) (by omega)
 have gh : g ≠ F + 1 := by omega
 have hles : ∀ W, Mid B N bk bo bp bf gm co cp (some ado) (some adp) old page w0 w F a b W V4 (((([] ++ [(m1, .slice C1 m1.2.length e1)]) ++ [(m2, .slice C2 m2.2.length e2)]) ++ [(m3, .slice C3 m3.2.length e3)]) ++ [(l3, .slice A3 l3.2.length q3)]) → Aside0 (W.heap[g]? = x4.heap[g]?) → Calls Tryz.prog 45 #[.func (.func 46) #[] #[], .agg #[.int .i64 m1.1, .slice C1 m1.2.length e1], .slice (some ⟨g, 2, none⟩) 3 (cap - 1)] W fun e w' => ∃ v, e = .returned (.agg #[.int .i64 r.1, v]) ∧ RM B w' v r.2 ∧ Below W.heap.size W w' := by
  intro W hW hWg
  refine least_calls B g 2 3 (cap - 1) (some ⟨g, 2, none⟩) m1 r (.slice C1 m1.2.length e1) [(m2, .slice C2 m2.2.length e2), (m3, .slice C3 m3.2.length e3), (l3, .slice A3 l3.2.length q3)] W (Nat.le_trans hW.s.n.2.2.2.2.2.2 hW.s.n.2.2.2.2.2.1) rfl (by decide) (hW.l (m1, .slice C1 m1.2.length e1) (by simp)) (fun e he => hW.l e (by simp at he ⊢; exact Or.inr he)) ?_ (fun _ => rfl) hl.out
  intro i hi
  have := HROW.out W hWg.out (i + 1) (by simp at hi ⊢; omega)
  rw [show 2 * (i + 1) = 2 + 2 * i by omega] at this
  simpa using this
 have HLES := Aside0.mk hles
 clear hles HROW
 go_region_held3 (fun w' => w'.cell? ⟨bk, 0, none⟩ = some (.map (some gm)) ∧ w'.cell? ⟨F + 1, 0, none⟩ = some (.int .i64 a) ∧ w'.cell? ⟨F + 1, 1, none⟩ = some (.int .i64 b) ∧ w'.cell? ⟨g, 0, none⟩ = some (.int .i64 m1.1) ∧ w'.cell? ⟨g, 1, none⟩ = some (.slice C1 m1.2.length e1))
  (first | exact ⟨(HX4.out.drew).cell.1, (HX4.out.drew).cell.2.2.2.2.1, (HX4.out.drew).cell.2.2.2.2.2, q1, q2⟩ | exact ⟨(hMl).cell.1, (hMl).cell.2.2.2.2.1, (hMl).cell.2.2.2.2.2, ql1, ql2⟩ | exact ⟨(hMp).cell.1, (hMp).cell.2.2.2.2.1, (hMp).cell.2.2.2.2.2, qp1, qp2⟩)
  ((go_at_call 45; refine (HLES.out _ HX4.out.drew ⟨rfl⟩).mono ?_; rintro e w8 ⟨u8, rfl, hR8, hb8⟩; have hMl := HX4.out.drew.below hb8; have ql1 := (hb8.cell (show g < x4.drew.heap.size from hg1)).trans q1; have ql2 := (hb8.cell (show g < x4.drew.heap.size from hg1)).trans q2; obtain ⟨w9, A8, c8, hput, hMp, hgp, hlook, hRp⟩ := hMl.put i j HIJ.out HIJ2.out.1 HIJ2.out.2 r u8 HBEST.out hR8; have qp1 := (World.cell?_of_block (hgp.block g (Nat.lt_of_lt_of_le hg1 hb8.size) (fun e => by injection e with e; exact hg2 e))).trans ql1; have qp2 := (World.cell?_of_block (hgp.block g (Nat.lt_of_lt_of_le hg1 hb8.size) (fun e => by injection e with e; exact hg2 e))).trans ql2; clear hb8 hR8))
 have HMP := Aside0.mk hMp
 have HRP := Aside0.mk hRp
 rename_i hHeld_; clear hHeld_
 clear hMp hRp hgp hput hMl ql1 ql2 qp1 qp2 q1 q2 hsl k1 k5 k6
 obtain ⟨k1, k2, k3, k4, k5, k6⟩ := HMP.out.cell
 clear k2 k3 k4
 have e3 : w9.cell? ⟨F, 0, none⟩ = some (.int .i64 0) := (blk_cell HMP.out.d1 0).trans rfl
 have e4 : w9.cell? ⟨F, 1, none⟩ = some (.slice none 0 0) := (blk_cell HMP.out.d1 1).trans rfl
 have e5 := blk_frozen HMP.out.d1 0
 have e6 := blk_frozen HMP.out.d1 1
 go_wp2
 obtain ⟨p1, p2, p3, p4⟩ := HMP.out.done r.1 (.slice A8 r.2.length c8) r.2 HRP.out
 refine bodyPost_ret (results_single (v := .agg #[.int .i64 r.1, .slice A8 r.2.length c8]) rfl (.cell F 85 #[.int .i64 r.1, .slice A8 r.2.length c8] (0, 0) _ rfl p4 hu85 rfl info85s .nil)) rfl ?_
 exact ⟨_, rfl, p1, p2, p3⟩
set_option maxHeartbeats 8000000 in
set_option maxRecDepth 100000 in
theorem from_both_ne {B N bk bo bp bf gm co cp : Nat} {Ao Ap : Option Addr} {ado adp : Addr} {old page : List ByteArray} {w0 : World} (i j : Nat) (a b a1 b1 : Int) (pp po : ByteArray) (l1 l2 l3 m1 m2 m3 r : LM) (w : World) (hAo : Ao = some ado) (hAp : Ap = some adp) (hS : FromSt B N bk bo bp bf gm co cp Ao Ap old page w0 w)
  (ha0 : 0 ≤ a) (hb0 : 0 ≤ b) (hij : .agg #[.int .i64 a, .int .i64 b] = keyV i j) (hi : i ≤ 1000) (hj : j ≤ 1000) (hbest : bestAt old page i j = some r)
  (hlk : ∀ w', Below w.heap.size w w' → (Instr.lookup 82 (.map (some gm)) (.agg #[.int .i64 a, .int .i64 b]) true).run Tryz.prog w' = .ok (.tuple #[.agg #[.int .i64 0, .slice none 0 0], .bool false]) w')
  (hb1 : wrap64 (b + 1) = b1) (hblt : b < (page.length : Int))
  (c1 : Aside0 (∀ W, FromSt B N bk bo bp bf gm co cp Ao Ap old page w0 W → Calls Tryz.prog 43 #[.int .i64 a, .int .i64 b1, .pointer (some ⟨bk, 0, none⟩), .pointer (some ⟨bo, 0, none⟩), .pointer (some ⟨bp, 0, none⟩), .pointer (some ⟨bf, 0, none⟩)] W fun e w' => ∃ v, e = .returned (.agg #[.int .i64 l1.1, v]) ∧ RM B w' v l1.2 ∧ FromSt B N bk bo bp bf gm co cp Ao Ap old page w0 w' ∧ W.grownBy w' (some gm))) (h1 : Aside0 (behindO l1 ⟨1, a, pp⟩ = some m1))
  (hcp : Aside0 (∀ W, Below B w0 W → W.cell? (adp.add b.toNat) = some (.string pp)))
  (ha1 : wrap64 (a + 1) = a1) (halt : a < (old.length : Int)) (hae : (a == (old.length : Int)) = false)
  (c2 : Aside0 (∀ W, FromSt B N bk bo bp bf gm co cp Ao Ap old page w0 W → Calls Tryz.prog 43 #[.int .i64 a1, .int .i64 b, .pointer (some ⟨bk, 0, none⟩), .pointer (some ⟨bo, 0, none⟩), .pointer (some ⟨bp, 0, none⟩), .pointer (some ⟨bf, 0, none⟩)] W fun e w' => ∃ v, e = .returned (.agg #[.int .i64 l2.1, v]) ∧ RM B w' v l2.2 ∧ FromSt B N bk bo bp bf gm co cp Ao Ap old page w0 w' ∧ W.grownBy w' (some gm))) (h2 : Aside0 (behindO l2 ⟨3, a, ⟨#[]⟩⟩ = some m2))
  (c3 : Aside0 (∀ W, FromSt B N bk bo bp bf gm co cp Ao Ap old page w0 W → Calls Tryz.prog 43 #[.int .i64 a1, .int .i64 b1, .pointer (some ⟨bk, 0, none⟩), .pointer (some ⟨bo, 0, none⟩), .pointer (some ⟨bp, 0, none⟩), .pointer (some ⟨bf, 0, none⟩)] W fun e w' => ∃ v, e = .returned (.agg #[.int .i64 l3.1, v]) ∧ RM B w' v l3.2 ∧ FromSt B N bk bo bp bf gm co cp Ao Ap old page w0 w' ∧ W.grownBy w' (some gm))) (h3 : Aside0 (behindO l3 ⟨2, a, pp⟩ = some m3))
  (hco : Aside0 (∀ W, Below B w0 W → W.cell? (ado.add a.toNat) = some (.string po)))
  (heq : (po.toList == pp.toList) = false)
  (hl : Aside0 (leastL m1 [m2, m3] = some r))
  : Calls Tryz.prog 43 #[.int .i64 a, .int .i64 b, .pointer (some ⟨bk, 0, none⟩), .pointer (some ⟨bo, 0, none⟩), .pointer (some ⟨bp, 0, none⟩), .pointer (some ⟨bf, 0, none⟩)] w fun e w' => ∃ v, e = .returned (.agg #[.int .i64 r.1, v]) ∧ RM B w' v r.2 ∧ FromSt B N bk bo bp bf gm co cp Ao Ap old page w0 w' ∧ w.grownBy w' (some gm) := by
 subst hAo
 subst hAp
 have HS := Aside0.mk hS
 have HL := Aside0.mk hlk
 have HIJ := Aside0.mk hij
 have HBEST := Aside0.mk hbest
 have hu85 := Tryz.underlying85
 have hu86 := Tryz.underlying86
 have hb1i : IntKind.i64.wrap (b + 1) = b1 := by rw [i64_w]; exact hb1
 have ha1i : IntKind.i64.wrap (a + 1) = a1 := by rw [i64_w]; exact ha1
 have HIJ2 := Aside0.mk (And.intro hi hj)
 clear hS hlk hij hbest hi hj
 go_enter Tryz.func43, Tryz.ntmps43
 go_upto_region 2 with fail
 obtain ⟨F, w1, hF, hw1, hb1', f1, f2⟩ := first_blocks w a b
 rw [hw1, hF]
 have hb2' : Below w.heap.size w w1 := by rw [hF]; exact hb1'
 have hS1 := HS.out.below hb2'
 have hl1 := HL.out w1 hb2'
 have k1 : w1.cell? ⟨bk, 0, none⟩ = some (.map (some gm)) := (blk_cell hS1.k 0).trans rfl
 have k2 : w1.cell? ⟨F + 1, 0, none⟩ = some (.int .i64 a) := (blk_cell f2 0).trans rfl
 have k3 : w1.cell? ⟨F + 1, 1, none⟩ = some (.int .i64 b) := (blk_cell f2 1).trans rfl
 have hN : N ≤ F := by rw [← hF]; exact HS.out.n.2.2.2.2.2.1
 have HM := Aside0.mk (show Mid B N bk bo bp bf gm co cp (some ado) (some adp) old page w0 w F a b w1 (.slice none 0 0) [] from ⟨hS1, f1, f2, grown_of_below_ours hb2', ⟨by simp [cellsL], .inl ⟨rfl, rfl⟩⟩, fun e he => by simp at he, (by have := blk_lt f2; omega), hF, hN⟩)
 have hF' := Aside0.mk hF
 clear hw1 hb1' hb2' f1 f2 hS1 hF hN HL HS
 go_upto_region 5 with fail
 have d3 : Below w1.heap.size w1 (w1.alloc (.cells #[.int .i64 0, .slice none 0 0] 85)) := (Below.refl _ _).alloc (Nat.le_refl _) _
 have HM2 := Aside0.mk (HM.out.below d3)
 generalize w1.alloc (.cells #[.int .i64 0, .slice none 0 0] 85) = x0 at *
 clear k1 k2 k3 hl1 d3 HM
 obtain ⟨G, hG⟩ : ∃ G, w1.heap.size = G := ⟨_, rfl⟩
 rw [hG]
 clear hG
 obtain ⟨k1, k2, k3, k4, k5, k6⟩ := HM2.out.cell
 go_upto_region 9 with fail
 have hp := hcp.out _ HM2.out.s.b
 have gp0 : (0 : Int) ≤ b := hb0
 go_region_held3 (fun w' => w'.cell? ⟨bf, 0, none⟩ = some (.func (.func 43) #[] #[.pointer (some ⟨bk, 0, none⟩), .pointer (some ⟨bo, 0, none⟩), .pointer (some ⟨bp, 0, none⟩), .pointer (some ⟨bf, 0, none⟩)]) ∧ w'.cell? ⟨bp, 0, none⟩ = some (.slice (some adp) page.length cp) ∧ w'.cell? (adp.add b.toNat) = some (.string pp))
  (first | exact ⟨(HM2.out.drew).cell.2.2.2.1, (HM2.out.drew).cell.2.2.1, hcp.out _ (HM2.out.drew).s.b⟩ | exact ⟨(hM1).cell.2.2.2.1, (hM1).cell.2.2.1, hcp.out _ (hM1).s.b⟩ | exact ⟨(hN1).cell.2.2.2.1, (hN1).cell.2.2.1, hcp.out _ (hN1).s.b⟩ | exact ⟨(hN1.below ((Below.refl _ _).alloc (Nat.le_refl _) _)).cell.2.2.2.1, (hN1.below ((Below.refl _ _).alloc (Nat.le_refl _) _)).cell.2.2.1, hcp.out _ (hN1.below ((Below.refl _ _).alloc (Nat.le_refl _) _)).s.b⟩ | exact ⟨(hX1).cell.2.2.2.1, (hX1).cell.2.2.1, hcp.out _ (hX1).s.b⟩)
  (first | (go_at_call 43; refine (c1.out _ HM2.out.drew.s).mono ?_; rintro e y1 ⟨u1, rfl, hR1, hS1, hG1⟩; have hM1 := HM2.out.drew.map hS1 hG1; obtain ⟨A1, q1, rfl, hq1, hC1⟩ := Kd.R_reads hR1; clear hS1 hG1) | (go_at_call 44; refine (proof_list_behind.calls l1.1 A1 q1 l1.2 1 a pp m1.1 m1.2 _ hC1 hq1 h1.out).mono ?_; rintro e z1 ⟨t1, rfl, hT1, hb1⟩; have hN1 := hM1.below hb1; have hU1 := RM.of_new hM1.s hT1; obtain ⟨C1, e1, rfl⟩ := Kd.R_slice hT1; clear hb1 hT1) | (refine step_append_cells (w0 := _) (F + 2) (by rfl) (.tmp 43) (.tmp 56) 88 85 (.agg #[.int .i64 0, .slice none 0 0]) 2 32 rfl Tryz.underlying88 info85 rfl (by decide) (by omega) (.slice none 0 0) ([] : List (LM × Value)).length (cellsL []) [.int .i64 m1.1, .slice C1 m1.2.length e1] (by rfl) (by rfl) rfl (by simp [Value.oneCell']) hN1.r (Below.refl _ _) hN1.h (by simp) ?_; intro V1 x1 ho1 hB1 hg1 hat1; have hX1 := hN1.append m1 _ hU1 ho1 hg1; clear ho1 hB1 hg1 hat1))
 have HX1 := Aside0.mk hX1
 clear hX1 hN1 hM1 hU1 hR1 hq1 hC1 HM2 k1 k2 k3 k4 k5 k6 hp
 obtain ⟨k1, k2, k3, k4, k5, k6⟩ := HX1.out.cell
 rename_i hHeld_; clear hHeld_
 go_upto_region 13 with (first | (go_at_call 43; refine (c2.out _ HX1.out.s).mono ?_; rintro e y2 ⟨u2, rfl, hR2, hS2, hG2⟩; have hM2 := HX1.out.map hS2 hG2; obtain ⟨A2, q2, rfl, hq2, hC2⟩ := Kd.R_reads hR2; clear hS2 hG2) | (go_at_call 44; refine (proof_list_behind.calls l2.1 A2 q2 l2.2 3 a ⟨#[]⟩ m2.1 m2.2 _ hC2 hq2 h2.out).mono ?_; rintro e z2 ⟨t2, rfl, hT2, hb2⟩; have hN2 := hM2.below hb2; have hU2 := RM.of_new hM2.s hT2; obtain ⟨C2, e2, rfl⟩ := Kd.R_slice hT2; clear hb2 hT2) | (at_builtin; refine print_append_cells (w0 := _) (F + 2) rfl (.tmp 62) (.tmp 71) 88 85 (.agg #[.int .i64 0, .slice none 0 0]) 2 32 rfl Tryz.underlying88 info85 rfl (by decide) (by omega) V1 (([] ++ [(m1, .slice C1 m1.2.length e1)]) : List (LM × Value)).length (cellsL ([] ++ [(m1, .slice C1 m1.2.length e1)])) [.int .i64 m2.1, .slice C2 m2.2.length e2] rfl rfl rfl (by simp [Value.oneCell']) hN2.r (Below.refl _ _) hN2.h (by simp) ?_; intro V2 x2 ho2 hB2 hg2 hat2; have hX2 := hN2.append m2 _ hU2 ho2 hg2; clear ho2 hB2 hg2 hat2; clear k1 k2 k3 k4 k5 k6; obtain ⟨k1, k2, k3, k4, k5, k6⟩ := hX2.cell))
 have HX2 := Aside0.mk hX2
 clear hX2 hN2 hM2 hU2 hR2 hq2 hC2 HX1
 go_upto_region 14 with (go_at_call 43; refine (c3.out _ HX2.out.s).mono ?_; rintro e y3 ⟨u3, rfl, hR3, hS3, hG3⟩; have hM3 := HX2.out.map hS3 hG3; obtain ⟨A3, q3, rfl, hq3, hC3⟩ := Kd.R_reads hR3; clear hS3 hG3)
 have hHb := blk_new y3 (.cells #[.int .i64 l3.1, .slice A3 l3.2.length q3] 85)
 have hd := (Below.refl _ y3).alloc (Nat.le_refl _) (.cells #[.int .i64 l3.1, .slice A3 l3.2.length q3] 85)
 have hM4 := hM3.below hd
 have hR4 := RM.keep (B := B) (RM.of_new2 hR3) (Keep42.of_below hd)
 have hlt4 : ∀ k, V2.ownBlock = some k → k ≠ y3.heap.size := fun k hk => Nat.ne_of_lt (by obtain ⟨_, hc⟩ := own_typed hM3.r k hk; exact blk_lt hc)
 generalize y3.alloc (.cells #[.int .i64 l3.1, .slice A3 l3.2.length q3] 85) = x4 at *
 obtain ⟨H, hH⟩ : ∃ H, y3.heap.size = H := ⟨_, rfl⟩
 rw [hH] at hHb hlt4 ⊢
 have HM4 := Aside0.mk hM4
 have HHB := Aside0.mk hHb
 have HR4 := Aside0.mk hR4
 have HLT := Aside0.mk hlt4
 clear hM4 hHb hR4 hlt4 hH hd hM3 hR3 hC3 k1 k2 k3 k4 k5 k6 HX2
 have h40 : x4.cell? ⟨H, 0, none⟩ = some (.int .i64 l3.1) := (blk_cell HHB.out 0).trans rfl
 have h41 : x4.cell? ⟨H, 1, none⟩ = some (.slice A3 l3.2.length q3) := (blk_cell HHB.out 1).trans rfl
 obtain ⟨k1, k2, k3, k4, k5, k6⟩ := HM4.out.cell
 have hp := hcp.out _ HM4.out.s.b
 have hC4 : Kd.C k42 x4 A3 l3.2.length l3.2 := by obtain ⟨A, c, e, _, hC⟩ := Kd.R_reads HR4.out; injection e with e1 _ _; rw [e1]; exact hC
 have HC4 := Aside0.mk hC4
 clear hC4
 go_region_held3 (fun w' => w'.cell? ⟨H, 0, none⟩ = some (.int .i64 l3.1) ∧ w'.cell? ⟨H, 1, none⟩ = some (.slice A3 l3.2.length q3) ∧ w'.cell? ⟨bp, 0, none⟩ = some (.slice (some adp) page.length cp) ∧ w'.cell? (adp.add b.toNat) = some (.string pp))
  (first | exact ⟨(blk_cell (blk_drew HHB.out) 0).trans rfl, (blk_cell (blk_drew HHB.out) 1).trans rfl, (HM4.out.drew).cell.2.2.1, hcp.out _ (HM4.out.drew).s.b⟩ | exact ⟨(blk_cell (hHz) 0).trans rfl, (blk_cell (hHz) 1).trans rfl, (hN3).cell.2.2.1, hcp.out _ (hN3).s.b⟩ | exact ⟨(blk_cell (blk_alloc hHz _) 0).trans rfl, (blk_cell (blk_alloc hHz _) 1).trans rfl, (hN3.below ((Below.refl _ _).alloc (Nat.le_refl _) _)).cell.2.2.1, hcp.out _ (hN3.below ((Below.refl _ _).alloc (Nat.le_refl _) _)).s.b⟩ | exact ⟨(blk_cell (hHx) 0).trans rfl, (blk_cell (hHx) 1).trans rfl, (hX3).cell.2.2.1, hcp.out _ (hX3).s.b⟩)
  (first | (go_at_call 44; refine (proof_list_behind.calls l3.1 A3 q3 l3.2 2 a pp m3.1 m3.2 _ (Kd.C_drew HC4.out) hq3 h3.out).mono ?_; rintro e z3 ⟨t3, rfl, hT3, hb3⟩; have hN3 := HM4.out.drew.below hb3; have hU3 := RM.of_new HM4.out.drew.s hT3; have hHz := blk_below (blk_drew HHB.out) hb3; have hR5 := (RM.drew HR4.out).keep (Keep42.of_below hb3); obtain ⟨C3, e3, rfl⟩ := Kd.R_slice hT3; clear hb3 hT3) | (refine step_append_cells (w0 := _) (F + 2) (by rfl) (.tmp 89) (.tmp 98) 88 85 (.agg #[.int .i64 0, .slice none 0 0]) 2 32 rfl Tryz.underlying88 info85 rfl (by decide) (by omega) V2 ((([] ++ [(m1, .slice C1 m1.2.length e1)]) ++ [(m2, .slice C2 m2.2.length e2)]) : List (LM × Value)).length (cellsL (([] ++ [(m1, .slice C1 m1.2.length e1)]) ++ [(m2, .slice C2 m2.2.length e2)])) [.int .i64 m3.1, .slice C3 m3.2.length e3] (by rfl) (by rfl) rfl (by simp [Value.oneCell']) hN3.r (Below.refl _ _) hN3.h (by simp) ?_; intro V3 x3 ho3 hB3 hg3 hat3; have hX3 := hN3.append m3 _ hU3 ho3 hg3; have hHx := blk_grown hHz hg3 (fun e => HLT.out _ e.symm rfl); have hR6 := hR5.keep (Keep42.of_row hN3.r hg3); clear ho3 hB3 hg3 hat3))
 have HX3 := Aside0.mk hX3
 have HR6 := Aside0.mk hR6
 clear hX3 hN3 hU3 hHz hR5 hR6 HM4 HHB HR4 HLT HC4 h40 h41 k1 k2 k3 k4 k5 k6 hp
 rename_i hHeld_; clear hHeld_
 have h40 : x3.cell? ⟨H, 0, none⟩ = some (.int .i64 l3.1) := (blk_cell hHx 0).trans rfl
 have h41 : x3.cell? ⟨H, 1, none⟩ = some (.slice A3 l3.2.length q3) := (blk_cell hHx 1).trans rfl
 clear hHx
 obtain ⟨k1, k2, k3, k4, k5, k6⟩ := HX3.out.cell
 have hp := hcp.out _ HX3.out.s.b
 have ho := hco.out _ HX3.out.s.b
 have gp1 : (0 : Int) ≤ a := ha0
 go_upto_region 15 with fail
 go_quiet (fail)
 have HX5 := Aside0.mk (HX3.out.below (pw_below_drewN (Below.refl _ _) nq))
 have HR7 := Aside0.mk (HR6.out.keep (Keep42.of_below (pw_below_drewN (Below.refl _ _) nq)))
 have h50 : (x3.drewN nq).cell? ⟨H, 0, none⟩ = some (.int .i64 l3.1) := h40
 have h51 : (x3.drewN nq).cell? ⟨H, 1, none⟩ = some (.slice A3 l3.2.length q3) := h41
 clear h40 h41 hp ho k1 k2 k3 k4 k5 k6 HX3 HR6
 generalize x3.drewN nq = x5 at HX5 HR7 h50 h51 ⊢
 go_upto_region 17 with fail
 clear h50 h51 HR7
 obtain ⟨g, cap, hV, hcap, hrow, hg1, hg2, hg3⟩ := HX5.out.row (by simp)
 have hVn : V3 = .slice (some ⟨g, 0, none⟩) 3 cap := by simpa using hV
 have hcapn : 3 ≤ cap := by simpa using hcap
 have q1 := (hrow x5 rfl 0 (by simp)).1
 have q2 := (hrow x5 rfl 0 (by simp)).2
 simp only [List.nil_append, List.cons_append, List.getElem_cons_zero, Nat.mul_zero, Nat.zero_add] at q1 q2
 rw [hVn]
 have HROW := Aside0.mk hrow
 have hca : (3 : Int) ≤ (cap : Int) := by omega
 clear hV hrow hcap
 obtain ⟨k1, k2, k3, k4, k5, k6⟩ := HX5.out.cell
 clear k2 k3 k4
 have hsl := slice_tail (n := 3) (cap := cap) g (by omega) (by omega)
 have gh : g ≠ F + 1 := by omega
 have hles : ∀ W, Mid B N bk bo bp bf gm co cp (some ado) (some adp) old page w0 w F a b W V3 ((([] ++ [(m1, .slice C1 m1.2.length e1)]) ++ [(m2, .slice C2 m2.2.length e2)]) ++ [(m3, .slice C3 m3.2.length e3)]) → Aside0 (W.heap[g]? = x5.heap[g]?) → Calls Tryz.prog 45 #[.func (.func 46) #[] #[], .agg #[.int .i64 m1.1, .slice C1 m1.2.length e1], .slice (some ⟨g, 2, none⟩) 2 (cap - 1)] W fun e w' => ∃ v, e = .returned (.agg #[.int .i64 r.1, v]) ∧ RM B w' v r.2 ∧ Below W.heap.size W w' := by
  intro W hW hWg
  refine least_calls B g 2 2 (cap - 1) (some ⟨g, 2, none⟩) m1 r (.slice C1 m1.2.length e1) [(m2, .slice C2 m2.2.length e2), (m3, .slice C3 m3.2.length e3)] W (Nat.le_trans hW.s.n.2.2.2.2.2.2 hW.s.n.2.2.2.2.2.1) rfl (by decide) (hW.l (m1, .slice C1 m1.2.length e1) (by simp)) (fun e he => hW.l e (by simp at he ⊢; exact Or.inr he)) ?_ (fun _ => rfl) hl.out
  intro i hi
  have := HROW.out W hWg.out (i + 1) (by simp at hi ⊢; omega)
  rw [show 2 * (i + 1) = 2 + 2 * i by omega] at this
  simpa using this
 have HLES := Aside0.mk hles
 clear hles HROW
 go_region_held3 (fun w' => w'.cell? ⟨bk, 0, none⟩ = some (.map (some gm)) ∧ w'.cell? ⟨F + 1, 0, none⟩ = some (.int .i64 a) ∧ w'.cell? ⟨F + 1, 1, none⟩ = some (.int .i64 b) ∧ w'.cell? ⟨g, 0, none⟩ = some (.int .i64 m1.1) ∧ w'.cell? ⟨g, 1, none⟩ = some (.slice C1 m1.2.length e1))
  (first | exact ⟨(HX5.out.drew).cell.1, (HX5.out.drew).cell.2.2.2.2.1, (HX5.out.drew).cell.2.2.2.2.2, q1, q2⟩ | exact ⟨(hMl).cell.1, (hMl).cell.2.2.2.2.1, (hMl).cell.2.2.2.2.2, ql1, ql2⟩ | exact ⟨(hMp).cell.1, (hMp).cell.2.2.2.2.1, (hMp).cell.2.2.2.2.2, qp1, qp2⟩)
  ((go_at_call 45; refine (HLES.out _ HX5.out.drew ⟨rfl⟩).mono ?_; rintro e w8 ⟨u8, rfl, hR8, hb8⟩; have hMl := HX5.out.drew.below hb8; have ql1 := (hb8.cell (show g < x5.drew.heap.size from hg1)).trans q1; have ql2 := (hb8.cell (show g < x5.drew.heap.size from hg1)).trans q2; obtain ⟨w9, A8, c8, hput, hMp, hgp, hlook, hRp⟩ := hMl.put i j HIJ.out HIJ2.out.1 HIJ2.out.2 r u8 HBEST.out hR8; have qp1 := (World.cell?_of_block (hgp.block g (Nat.lt_of_lt_of_le hg1 hb8.size) (fun e => by injection e with e; exact hg2 e))).trans ql1; have qp2 := (World.cell?_of_block (hgp.block g (Nat.lt_of_lt_of_le hg1 hb8.size) (fun e => by injection e with e; exact hg2 e))).trans ql2; clear hb8 hR8))
 have HMP := Aside0.mk hMp
 have HRP := Aside0.mk hRp
 rename_i hHeld_; clear hHeld_
 clear hMp hRp hgp hput hMl ql1 ql2 qp1 qp2 q1 q2 hsl k1 k5 k6
 obtain ⟨k1, k2, k3, k4, k5, k6⟩ := HMP.out.cell
 clear k2 k3 k4
 have e3 : w9.cell? ⟨F, 0, none⟩ = some (.int .i64 0) := (blk_cell HMP.out.d1 0).trans rfl
 have e4 : w9.cell? ⟨F, 1, none⟩ = some (.slice none 0 0) := (blk_cell HMP.out.d1 1).trans rfl
 have e5 := blk_frozen HMP.out.d1 0
 have e6 := blk_frozen HMP.out.d1 1
 go_wp2
 obtain ⟨p1, p2, p3, p4⟩ := HMP.out.done r.1 (.slice A8 r.2.length c8) r.2 HRP.out
 refine bodyPost_ret (results_single (v := .agg #[.int .i64 r.1, .slice A8 r.2.length c8]) rfl (.cell F 85 #[.int .i64 r.1, .slice A8 r.2.length c8] (0, 0) _ rfl p4 hu85 rfl info85s .nil)) rfl ?_
 exact ⟨_, rfl, p1, p2, p3⟩
end Go.Proofs.YteoknahabkoknaaGreatDoor.P
