/- Parts of the proof of topCorrected_card: the texts P16, MAwake, MPlB of the session's own drivers and templates, laid together by a program of the session's own; what the theorem does not come to is left out. -/
import Derived.Laws.Strings
import Derived.Test.YteoknahabkoknaaGreatDoorY1
import Derived.Test.YteoknahabkoknaaGreatDoorY2
import Derived.Test.YteoknahabkoknaaGreatDoorY3
import Derived.Test.YteoknahabkoknaaGreatDoorY4
import Derived.Test.YteoknahabkoknaaGreatDoorY5
import Derived.Test.YteoknahabkoknaaGreatDoorY6
namespace Go.Proofs.YteoknahabkoknaaGreatDoor.P
open Go.RowKit Go.Proofs.YteoknahabkoknaaGreatDoorW.PrintWords Go.Proofs.YteoknahabkoknaaGreatDoorW.PrintLast Go.Proofs.YteoknahabkoknaaGreatDoorW.PrintMore
attribute [local go_sem] max2_int min2_int max_two min_two max_three min_three max_four min_four   -- for this text's walks alone
set_option linter.unusedVariables false
set_option linter.unusedSimpArgs false
attribute [local go_sem high] eqA44
def wayzgoosetop_correctedAwake.f (k : Nat)  : Option (Bool) := (name_Sort.f (([(⟨#[99, 104, 97, 100]⟩ : ByteArray), (⟨#[67, 65, 68]⟩ : ByteArray), (⟨#[97, 110, 110, 97]⟩ : ByteArray), (⟨#[66, 69, 78]⟩ : ByteArray)] : List ByteArray))).bind fun bt326 => ((proof_Diff.f k (([(⟨#[97]⟩ : ByteArray), (⟨#[98]⟩ : ByteArray)] : List ByteArray)) (([(⟨#[99]⟩ : ByteArray)] : List ByteArray))).bind fun bt336 => ((proof_Look.f k (([(([(⟨#[97, 110, 110, 97]⟩ : ByteArray), (⟨#[98, 101, 110]⟩ : ByteArray)] : List ByteArray)), (([(⟨#[97, 110, 110, 97]⟩ : ByteArray), (⟨#[99, 121, 100]⟩ : ByteArray)] : List ByteArray))] : List (List ByteArray))) ([] : List (S42)) (([(⟨#[97, 110, 110, 97]⟩ : ByteArray), (⟨#[98, 101, 110]⟩ : ByteArray), (⟨#[99, 121, 100]⟩ : ByteArray)] : List ByteArray))).bind fun bt352 => (if bt326.2 = 0 then (if bt336.2 = 0 then (if bt352.2.2 = 0 then (if (bt352.1 == 2 && (bt352.2.1 == 1)) = true then ((wayzgoosekit_EqInts.f k bt326.1 (([2, 3, 0, 1] : List Int))).bind fun t359 => (if t359 = true then ((wayzgoosekit_EqMarks.f k bt336.1 (([(⟨2, 0, (⟨#[99]⟩ : ByteArray)⟩ : S42), (⟨3, 1, (⟨#[]⟩ : ByteArray)⟩ : S42)] : List (S42)))).bind fun t363 => (some t363)) else (some false))) else (some false)) else (some false)) else (some false)) else (some false))))
set_option maxHeartbeats 8000000 in
set_option maxRecDepth 100000 in
theorem wayzgoosetop_correctedAwake.calls (k : Nat)  (r : Bool) (w : World) (h : wayzgoosetop_correctedAwake.f k  = some r) (hr : r = true) :
  Calls Tryz.prog 8 #[] w fun e w' => e = .returned (.bool r) ∧ Below w.heap.size w w' := by
 have hu44 := Tryz.underlying44
 have hu42 := Tryz.underlying42
 have HB := Aside0.mk (Below.refl w.heap.size w)
 have H : ((name_Sort.f (([(⟨#[99, 104, 97, 100]⟩ : ByteArray), (⟨#[67, 65, 68]⟩ : ByteArray), (⟨#[97, 110, 110, 97]⟩ : ByteArray), (⟨#[66, 69, 78]⟩ : ByteArray)] : List ByteArray))).bind fun bt326 => ((proof_Diff.f k (([(⟨#[97]⟩ : ByteArray), (⟨#[98]⟩ : ByteArray)] : List ByteArray)) (([(⟨#[99]⟩ : ByteArray)] : List ByteArray))).bind fun bt336 => ((proof_Look.f k (([(([(⟨#[97, 110, 110, 97]⟩ : ByteArray), (⟨#[98, 101, 110]⟩ : ByteArray)] : List ByteArray)), (([(⟨#[97, 110, 110, 97]⟩ : ByteArray), (⟨#[99, 121, 100]⟩ : ByteArray)] : List ByteArray))] : List (List ByteArray))) ([] : List (S42)) (([(⟨#[97, 110, 110, 97]⟩ : ByteArray), (⟨#[98, 101, 110]⟩ : ByteArray), (⟨#[99, 121, 100]⟩ : ByteArray)] : List ByteArray))).bind fun bt352 => (if bt326.2 = 0 then (if bt336.2 = 0 then (if bt352.2.2 = 0 then (if (bt352.1 == 2 && (bt352.2.1 == 1)) = true then ((wayzgoosekit_EqInts.f k bt326.1 (([2, 3, 0, 1] : List Int))).bind fun t359 => (if t359 = true then ((wayzgoosekit_EqMarks.f k bt336.1 (([(⟨2, 0, (⟨#[99]⟩ : ByteArray)⟩ : S42), (⟨3, 1, (⟨#[]⟩ : ByteArray)⟩ : S42)] : List (S42)))).bind fun t363 => (some t363)) else (some false))) else (some false)) else (some false)) else (some false)) else (some false))))) = some r := h
 clear h
 obtain ⟨y323, hy323⟩ : ∃ y_ : List ByteArray, y_ = (([(⟨#[99, 104, 97, 100]⟩ : ByteArray), (⟨#[67, 65, 68]⟩ : ByteArray), (⟨#[97, 110, 110, 97]⟩ : ByteArray), (⟨#[66, 69, 78]⟩ : ByteArray)] : List ByteArray)) := ⟨_, rfl⟩
 replace H : ((name_Sort.f y323).bind fun bt326 => ((proof_Diff.f k (([(⟨#[97]⟩ : ByteArray), (⟨#[98]⟩ : ByteArray)] : List ByteArray)) (([(⟨#[99]⟩ : ByteArray)] : List ByteArray))).bind fun bt336 => ((proof_Look.f k (([(([(⟨#[97, 110, 110, 97]⟩ : ByteArray), (⟨#[98, 101, 110]⟩ : ByteArray)] : List ByteArray)), (([(⟨#[97, 110, 110, 97]⟩ : ByteArray), (⟨#[99, 121, 100]⟩ : ByteArray)] : List ByteArray))] : List (List ByteArray))) ([] : List (S42)) (([(⟨#[97, 110, 110, 97]⟩ : ByteArray), (⟨#[98, 101, 110]⟩ : ByteArray), (⟨#[99, 121, 100]⟩ : ByteArray)] : List ByteArray))).bind fun bt352 => (if bt326.2 = 0 then (if bt336.2 = 0 then (if bt352.2.2 = 0 then (if (bt352.1 == 2 && (bt352.2.1 == 1)) = true then ((wayzgoosekit_EqInts.f k bt326.1 (([2, 3, 0, 1] : List Int))).bind fun t359 => (if t359 = true then ((wayzgoosekit_EqMarks.f k bt336.1 (([(⟨2, 0, (⟨#[99]⟩ : ByteArray)⟩ : S42), (⟨3, 1, (⟨#[]⟩ : ByteArray)⟩ : S42)] : List (S42)))).bind fun t363 => (some t363)) else (some false))) else (some false)) else (some false)) else (some false)) else (some false))))) = some r := by first | (rw [hy323]; with_reducible exact H) | (have H2_ := (Option.bind_some _ _).symm.trans H; rw [hy323]; with_reducible exact H2_) | (have H2_ := (Option.bind_some _ _).symm.trans H; with_reducible exact H2_) | with_reducible exact H | (rw [hy323]; exact H) | exact H
 have Ny323 := Aside0.mk hy323
 clear hy323
 replace H := Option.bind_eq_some_iff.mp H
 obtain ⟨⟨t326, t327⟩, A10, H⟩ := H
 try dsimp only at H
 have A1 := Aside0.mk A10
 clear A10
 obtain ⟨y330, hy330⟩ : ∃ y_ : List ByteArray, y_ = (([(⟨#[97]⟩ : ByteArray), (⟨#[98]⟩ : ByteArray)] : List ByteArray)) := ⟨_, rfl⟩
 replace H : ((proof_Diff.f k y330 (([(⟨#[99]⟩ : ByteArray)] : List ByteArray))).bind fun bt336 => ((proof_Look.f k (([(([(⟨#[97, 110, 110, 97]⟩ : ByteArray), (⟨#[98, 101, 110]⟩ : ByteArray)] : List ByteArray)), (([(⟨#[97, 110, 110, 97]⟩ : ByteArray), (⟨#[99, 121, 100]⟩ : ByteArray)] : List ByteArray))] : List (List ByteArray))) ([] : List (S42)) (([(⟨#[97, 110, 110, 97]⟩ : ByteArray), (⟨#[98, 101, 110]⟩ : ByteArray), (⟨#[99, 121, 100]⟩ : ByteArray)] : List ByteArray))).bind fun bt352 => (if t327 = 0 then (if bt336.2 = 0 then (if bt352.2.2 = 0 then (if (bt352.1 == 2 && (bt352.2.1 == 1)) = true then ((wayzgoosekit_EqInts.f k t326 (([2, 3, 0, 1] : List Int))).bind fun t359 => (if t359 = true then ((wayzgoosekit_EqMarks.f k bt336.1 (([(⟨2, 0, (⟨#[99]⟩ : ByteArray)⟩ : S42), (⟨3, 1, (⟨#[]⟩ : ByteArray)⟩ : S42)] : List (S42)))).bind fun t363 => (some t363)) else (some false))) else (some false)) else (some false)) else (some false)) else (some false)))) = some r := by first | (rw [hy330]; with_reducible exact H) | (have H2_ := (Option.bind_some _ _).symm.trans H; rw [hy330]; with_reducible exact H2_) | (have H2_ := (Option.bind_some _ _).symm.trans H; with_reducible exact H2_) | with_reducible exact H | (rw [hy330]; exact H) | exact H
 have Ny330 := Aside0.mk hy330
 clear hy330
 obtain ⟨y333, hy333⟩ : ∃ y_ : List ByteArray, y_ = (([(⟨#[99]⟩ : ByteArray)] : List ByteArray)) := ⟨_, rfl⟩
 replace H : ((proof_Diff.f k y330 y333).bind fun bt336 => ((proof_Look.f k (([(([(⟨#[97, 110, 110, 97]⟩ : ByteArray), (⟨#[98, 101, 110]⟩ : ByteArray)] : List ByteArray)), (([(⟨#[97, 110, 110, 97]⟩ : ByteArray), (⟨#[99, 121, 100]⟩ : ByteArray)] : List ByteArray))] : List (List ByteArray))) ([] : List (S42)) (([(⟨#[97, 110, 110, 97]⟩ : ByteArray), (⟨#[98, 101, 110]⟩ : ByteArray), (⟨#[99, 121, 100]⟩ : ByteArray)] : List ByteArray))).bind fun bt352 => (if t327 = 0 then (if bt336.2 = 0 then (if bt352.2.2 = 0 then (if (bt352.1 == 2 && (bt352.2.1 == 1)) = true then ((wayzgoosekit_EqInts.f k t326 (([2, 3, 0, 1] : List Int))).bind fun t359 => (if t359 = true then ((wayzgoosekit_EqMarks.f k bt336.1 (([(⟨2, 0, (⟨#[99]⟩ : ByteArray)⟩ : S42), (⟨3, 1, (⟨#[]⟩ : ByteArray)⟩ : S42)] : List (S42)))).bind fun t363 => (some t363)) else (some false))) else (some false)) else (some false)) else (some false)) else (some false)))) = some r := by first | (rw [hy333]; with_reducible exact H) | (have H2_ := (Option.bind_some _ _).symm.trans H; rw [hy333]; with_reducible exact H2_) | (have H2_ := (Option.bind_some _ _).symm.trans H; with_reducible exact H2_) | with_reducible exact H | (rw [hy333]; exact H) | exact H
 have Ny333 := Aside0.mk hy333
 clear hy333
 replace H := Option.bind_eq_some_iff.mp H
 obtain ⟨⟨t336, t337⟩, A20, H⟩ := H
 try dsimp only at H
 have A2 := Aside0.mk A20
 clear A20
 obtain ⟨y340, hy340⟩ : ∃ y_ : List ByteArray, y_ = (([(⟨#[97, 110, 110, 97]⟩ : ByteArray), (⟨#[98, 101, 110]⟩ : ByteArray)] : List ByteArray)) := ⟨_, rfl⟩
 replace H : ((proof_Look.f k (([y340, (([(⟨#[97, 110, 110, 97]⟩ : ByteArray), (⟨#[99, 121, 100]⟩ : ByteArray)] : List ByteArray))] : List (List ByteArray))) ([] : List (S42)) (([(⟨#[97, 110, 110, 97]⟩ : ByteArray), (⟨#[98, 101, 110]⟩ : ByteArray), (⟨#[99, 121, 100]⟩ : ByteArray)] : List ByteArray))).bind fun bt352 => (if t327 = 0 then (if t337 = 0 then (if bt352.2.2 = 0 then (if (bt352.1 == 2 && (bt352.2.1 == 1)) = true then ((wayzgoosekit_EqInts.f k t326 (([2, 3, 0, 1] : List Int))).bind fun t359 => (if t359 = true then ((wayzgoosekit_EqMarks.f k t336 (([(⟨2, 0, (⟨#[99]⟩ : ByteArray)⟩ : S42), (⟨3, 1, (⟨#[]⟩ : ByteArray)⟩ : S42)] : List (S42)))).bind fun t363 => (some t363)) else (some false))) else (some false)) else (some false)) else (some false)) else (some false))) = some r := by first | (rw [hy340]; with_reducible exact H) | (have H2_ := (Option.bind_some _ _).symm.trans H; rw [hy340]; with_reducible exact H2_) | (have H2_ := (Option.bind_some _ _).symm.trans H; with_reducible exact H2_) | with_reducible exact H | (rw [hy340]; exact H) | exact H
 have Ny340 := Aside0.mk hy340
 clear hy340
 obtain ⟨y343, hy343⟩ : ∃ y_ : List ByteArray, y_ = (([(⟨#[97, 110, 110, 97]⟩ : ByteArray), (⟨#[99, 121, 100]⟩ : ByteArray)] : List ByteArray)) := ⟨_, rfl⟩
 replace H : ((proof_Look.f k (([y340, y343] : List (List ByteArray))) ([] : List (S42)) (([(⟨#[97, 110, 110, 97]⟩ : ByteArray), (⟨#[98, 101, 110]⟩ : ByteArray), (⟨#[99, 121, 100]⟩ : ByteArray)] : List ByteArray))).bind fun bt352 => (if t327 = 0 then (if t337 = 0 then (if bt352.2.2 = 0 then (if (bt352.1 == 2 && (bt352.2.1 == 1)) = true then ((wayzgoosekit_EqInts.f k t326 (([2, 3, 0, 1] : List Int))).bind fun t359 => (if t359 = true then ((wayzgoosekit_EqMarks.f k t336 (([(⟨2, 0, (⟨#[99]⟩ : ByteArray)⟩ : S42), (⟨3, 1, (⟨#[]⟩ : ByteArray)⟩ : S42)] : List (S42)))).bind fun t363 => (some t363)) else (some false))) else (some false)) else (some false)) else (some false)) else (some false))) = some r := by first | (rw [hy343]; with_reducible exact H) | (have H2_ := (Option.bind_some _ _).symm.trans H; rw [hy343]; with_reducible exact H2_) | (have H2_ := (Option.bind_some _ _).symm.trans H; with_reducible exact H2_) | with_reducible exact H | (rw [hy343]; exact H) | exact H
 have Ny343 := Aside0.mk hy343
 clear hy343
 obtain ⟨y346, hy346⟩ : ∃ y_ : List (List ByteArray), y_ = (([y340, y343] : List (List ByteArray))) := ⟨_, rfl⟩
 replace H : ((proof_Look.f k y346 ([] : List (S42)) (([(⟨#[97, 110, 110, 97]⟩ : ByteArray), (⟨#[98, 101, 110]⟩ : ByteArray), (⟨#[99, 121, 100]⟩ : ByteArray)] : List ByteArray))).bind fun bt352 => (if t327 = 0 then (if t337 = 0 then (if bt352.2.2 = 0 then (if (bt352.1 == 2 && (bt352.2.1 == 1)) = true then ((wayzgoosekit_EqInts.f k t326 (([2, 3, 0, 1] : List Int))).bind fun t359 => (if t359 = true then ((wayzgoosekit_EqMarks.f k t336 (([(⟨2, 0, (⟨#[99]⟩ : ByteArray)⟩ : S42), (⟨3, 1, (⟨#[]⟩ : ByteArray)⟩ : S42)] : List (S42)))).bind fun t363 => (some t363)) else (some false))) else (some false)) else (some false)) else (some false)) else (some false))) = some r := by first | (rw [hy346]; with_reducible exact H) | (have H2_ := (Option.bind_some _ _).symm.trans H; rw [hy346]; with_reducible exact H2_) | (have H2_ := (Option.bind_some _ _).symm.trans H; with_reducible exact H2_) | with_reducible exact H | (rw [hy346]; exact H) | exact H
 have Ny346 := Aside0.mk hy346
 clear hy346
 obtain ⟨y349, hy349⟩ : ∃ y_ : List ByteArray, y_ = (([(⟨#[97, 110, 110, 97]⟩ : ByteArray), (⟨#[98, 101, 110]⟩ : ByteArray), (⟨#[99, 121, 100]⟩ : ByteArray)] : List ByteArray)) := ⟨_, rfl⟩
 replace H : ((proof_Look.f k y346 ([] : List (S42)) y349).bind fun bt352 => (if t327 = 0 then (if t337 = 0 then (if bt352.2.2 = 0 then (if (bt352.1 == 2 && (bt352.2.1 == 1)) = true then ((wayzgoosekit_EqInts.f k t326 (([2, 3, 0, 1] : List Int))).bind fun t359 => (if t359 = true then ((wayzgoosekit_EqMarks.f k t336 (([(⟨2, 0, (⟨#[99]⟩ : ByteArray)⟩ : S42), (⟨3, 1, (⟨#[]⟩ : ByteArray)⟩ : S42)] : List (S42)))).bind fun t363 => (some t363)) else (some false))) else (some false)) else (some false)) else (some false)) else (some false))) = some r := by first | (rw [hy349]; with_reducible exact H) | (have H2_ := (Option.bind_some _ _).symm.trans H; rw [hy349]; with_reducible exact H2_) | (have H2_ := (Option.bind_some _ _).symm.trans H; with_reducible exact H2_) | with_reducible exact H | (rw [hy349]; exact H) | exact H
 have Ny349 := Aside0.mk hy349
 clear hy349
 replace H := Option.bind_eq_some_iff.mp H
 obtain ⟨⟨t352, t353, t354⟩, A30, H⟩ := H
 try dsimp only at H
 have A3 := Aside0.mk A30
 clear A30
 by_cases c4 : t327 = 0
 ·rw [if_pos c4] at H
  have c4b0 : (t327 == 0) = true := beq_iff_eq.mpr c4
  have c4b1 : (t327 != 0) = false := bne_eq_false_iff_eq.mpr c4
  clear c4
  by_cases c5 : t337 = 0
  ·rw [if_pos c5] at H
   have c5b0 : (t337 == 0) = true := beq_iff_eq.mpr c5
   have c5b1 : (t337 != 0) = false := bne_eq_false_iff_eq.mpr c5
   clear c5
   by_cases c6 : t354 = 0
   ·rw [if_pos c6] at H
    have c6b0 : (t354 == 0) = true := beq_iff_eq.mpr c6
    have c6b1 : (t354 != 0) = false := bne_eq_false_iff_eq.mpr c6
    clear c6
    by_cases c7 : (t352 == 2 && (t353 == 1)) = true
    ·rw [if_pos c7] at H
     have c7b0 : (t352 == 2 && (t353 == 1)) = true := c7
     (try (have c7b1 : decide (t352 = 2 && (t353 == 1)) = true := by simpa using c7))
     (try (have c7b2 : (t352 == 2 && (t353 == 1)) = true := by simpa using c7))
     clear c7
     obtain ⟨y356, hy356⟩ : ∃ y_ : List Int, y_ = (([2, 3, 0, 1] : List Int)) := ⟨_, rfl⟩
     replace H : ((wayzgoosekit_EqInts.f k t326 y356).bind fun t359 => (if t359 = true then ((wayzgoosekit_EqMarks.f k t336 (([(⟨2, 0, (⟨#[99]⟩ : ByteArray)⟩ : S42), (⟨3, 1, (⟨#[]⟩ : ByteArray)⟩ : S42)] : List (S42)))).bind fun t363 => (some t363)) else (some false))) = some r := by first | (rw [hy356]; with_reducible exact H) | (have H2_ := (Option.bind_some _ _).symm.trans H; rw [hy356]; with_reducible exact H2_) | (have H2_ := (Option.bind_some _ _).symm.trans H; with_reducible exact H2_) | with_reducible exact H | (rw [hy356]; exact H) | exact H
     have Ny356 := Aside0.mk hy356
     clear hy356
     replace H := Option.bind_eq_some_iff.mp H
     obtain ⟨t359, A80, H⟩ := H
     try dsimp only at H
     have A8 := Aside0.mk A80
     clear A80
     by_cases c9 : t359 = true
     ·subst c9
      have H1 : ((wayzgoosekit_EqMarks.f k t336 (([(⟨2, 0, (⟨#[99]⟩ : ByteArray)⟩ : S42), (⟨3, 1, (⟨#[]⟩ : ByteArray)⟩ : S42)] : List (S42)))).bind fun t363 => (some t363)) = some r := by rw [if_pos rfl] at H; exact H
      clear H
      have H := H1
      clear H1
      obtain ⟨y360, hy360⟩ : ∃ y_ : List (S42), y_ = (([(⟨2, 0, (⟨#[99]⟩ : ByteArray)⟩ : S42), (⟨3, 1, (⟨#[]⟩ : ByteArray)⟩ : S42)] : List (S42))) := ⟨_, rfl⟩
      replace H : ((wayzgoosekit_EqMarks.f k t336 y360).bind fun t363 => (some t363)) = some r := by first | (rw [hy360]; with_reducible exact H) | (have H2_ := (Option.bind_some _ _).symm.trans H; rw [hy360]; with_reducible exact H2_) | (have H2_ := (Option.bind_some _ _).symm.trans H; with_reducible exact H2_) | with_reducible exact H | (rw [hy360]; exact H) | exact H
      have Ny360 := Aside0.mk hy360
      clear hy360
      replace H := Option.bind_eq_some_iff.mp H
      obtain ⟨t363, A100, H⟩ := H
      try dsimp only at H
      have A10 := Aside0.mk A100
      clear A100
      obtain rfl := Option.some.inj H
      go_enter Tryz.func8, Tryz.ntmps8
      go_wp2_with (first | ((with_reducible refine gate_dst (N := 8) rfl ?_); (try (refine gate_guard (by rfl) ?_; dsimp only)); refine Kd.R_lit Kd.string _ 9 ?hg (N := 8) ?hd (xs := ([(⟨#[99, 104, 97, 100]⟩ : ByteArray), (⟨#[67, 65, 68]⟩ : ByteArray), (⟨#[97, 110, 110, 97]⟩ : ByteArray), (⟨#[66, 69, 78]⟩ : ByteArray)] : List ByteArray)) (inner := [.string (⟨#[99, 104, 97, 100]⟩ : ByteArray), .string (⟨#[67, 65, 68]⟩ : ByteArray), .string (⟨#[97, 110, 110, 97]⟩ : ByteArray), .string (⟨#[66, 69, 78]⟩ : ByteArray)]) (ok := fun _ => True) (okp := fun _ => True) ?hr ?hp (fun _ hk => hk) trivial (Below.refl _ _) (Nat.le_refl _) (by simp) ?_; (case hd => rfl); (case hg => rfl); (case hr => first | (go_simp; done) | (go_simp; rfl)); (case hp => exact (Reps.one (show Kd.M Kd.string _ _ _ (⟨#[99, 104, 97, 100]⟩ : ByteArray) [.string (⟨#[99, 104, 97, 100]⟩ : ByteArray)] from rfl) (Reps.one (show Kd.M Kd.string _ _ _ (⟨#[67, 65, 68]⟩ : ByteArray) [.string (⟨#[67, 65, 68]⟩ : ByteArray)] from rfl) (Reps.one (show Kd.M Kd.string _ _ _ (⟨#[97, 110, 110, 97]⟩ : ByteArray) [.string (⟨#[97, 110, 110, 97]⟩ : ByteArray)] from rfl) (Reps.one (show Kd.M Kd.string _ _ _ (⟨#[66, 69, 78]⟩ : ByteArray) [.string (⟨#[66, 69, 78]⟩ : ByteArray)] from rfl) (Reps.none _ _)))))); intro v324 w11 ho12 hb hg_ hnew_; clear hg_ hnew_; (first | rw [← Ny323.out] at ho12 | (simp only [Int.reduceToNat] at ho12; rw [← Ny323.out] at ho12)); have n0_ := Aside0.mk (Kd.R_lower ho12 (below_size (by repeat (first | (with_reducible first | exact HB.out | apply below_alloc | apply pw_below_drewN | apply below_drew1) | exact HB.out)))); have n1_ := Aside0.mk (below_step (by repeat (first | (with_reducible first | exact HB.out | apply below_alloc | apply pw_below_drewN | apply below_drew1) | exact HB.out)) hb); clear HB; have HO325 := n0_; have HB := n1_; clear n0_ n1_; clear hb ho12; obtain ⟨Ao13, co13, eo13⟩ := Kd.R_slice HO325.out; subst eo13) | ((with_reducible refine gate_callee (f := 18) rfl ?_); refine goesL_ (some 9) rfl rfl Tryz.func18 (by kernel_rfl) rfl #[.slice Ao13 y323.length co13] rfl (by (try simp only [List.map_toArray, List.map_cons, List.map_nil]); first | done | rfl | (simp only [List.length_drop, List.length_take]; rfl)) ?_; (with_reducible refine (name_Sort.calls _ _ y323 t326 t327 _ ?side1 ?side2 A1.out).mono ?_); (case side1 => repeat (first | exact (Kd.R_reads' HO325.out).2.2 | (with_reducible refine Kd.C_alloc ?_ _) | (with_reducible refine Kd.C_drewN ?_ _) | (with_reducible refine Kd.C_drew ?_))); (case side2 => exact (Kd.R_reads' HO325.out).2.1); rintro e w14 ⟨v328, rfl, ho0, hb⟩; refine ⟨_, rfl, ?_⟩; have n0_ := Aside0.mk (Kd.R_below (by (with_reducible repeat (first | apply Kd.R_alloc | apply Kd.R_drewN | apply Kd.R_drew)); exact HO325.out) hb); have n1_ := Aside0.mk (Kd.R_lower ho0 (below_size (by repeat (first | (with_reducible first | exact HB.out | apply below_alloc | apply pw_below_drewN | apply below_drew1) | exact HB.out)))); have n2_ := Aside0.mk (below_step (by repeat (first | (with_reducible first | exact HB.out | apply below_alloc | apply pw_below_drewN | apply below_drew1) | exact HB.out)) hb); clear HO325; clear HB; have HO325 := n0_; have HO329 := n1_; have HB := n2_; clear n0_ n1_ n2_; (try clear hb); (try clear hb2); (try clear hk); (try clear hi); (try clear ho0)) | ((with_reducible refine gate_dst (N := 13) rfl ?_); (try (refine gate_guard (by rfl) ?_; dsimp only)); refine Kd.R_lit Kd.string _ 9 ?hg (N := 13) ?hd (xs := ([(⟨#[97]⟩ : ByteArray), (⟨#[98]⟩ : ByteArray)] : List ByteArray)) (inner := [.string (⟨#[97]⟩ : ByteArray), .string (⟨#[98]⟩ : ByteArray)]) (ok := fun _ => True) (okp := fun _ => True) ?hr ?hp (fun _ hk => hk) trivial (Below.refl _ _) (Nat.le_refl _) (by simp) ?_; (case hd => rfl); (case hg => rfl); (case hr => first | (go_simp; done) | (go_simp; rfl)); (case hp => exact (Reps.one (show Kd.M Kd.string _ _ _ (⟨#[97]⟩ : ByteArray) [.string (⟨#[97]⟩ : ByteArray)] from rfl) (Reps.one (show Kd.M Kd.string _ _ _ (⟨#[98]⟩ : ByteArray) [.string (⟨#[98]⟩ : ByteArray)] from rfl) (Reps.none _ _)))); intro v331 w15 ho16 hb hg_ hnew_; clear hg_ hnew_; (first | rw [← Ny330.out] at ho16 | (simp only [Int.reduceToNat] at ho16; rw [← Ny330.out] at ho16)); have n0_ := Aside0.mk (Kd.R_elder' (by (with_reducible repeat (first | apply Kd.R_alloc | apply Kd.R_drewN | apply Kd.R_drew)); exact HO325.out) (Kd.R_base ho16) hb); have n1_ := Aside0.mk (Kd.R_below (by (with_reducible repeat (first | apply Kd.R_alloc | apply Kd.R_drewN | apply Kd.R_drew)); exact HO329.out) hb); have n2_ := Aside0.mk (Kd.R_lower (Kd.R_new' ho16 (Kd.R_lt (by (with_reducible repeat (first | apply Kd.R_alloc | apply Kd.R_drewN | apply Kd.R_drew)); exact HO325.out))) (below_size (by repeat (first | (with_reducible first | exact HB.out | apply below_alloc | apply pw_below_drewN | apply below_drew1) | exact HB.out)))); have n3_ := Aside0.mk (below_step (by repeat (first | (with_reducible first | exact HB.out | apply below_alloc | apply pw_below_drewN | apply below_drew1) | exact HB.out)) hb); clear HO325; clear HO329; clear HB; have HO325 := n0_; have HO329 := n1_; have HO332 := n2_; have HB := n3_; clear n0_ n1_ n2_ n3_; clear hb ho16) | ((with_reducible refine gate_dst (N := 14) rfl ?_); (try (refine gate_guard (by rfl) ?_; dsimp only)); refine Kd.R_lit Kd.string _ 9 ?hg (N := 14) ?hd (xs := ([(⟨#[99]⟩ : ByteArray)] : List ByteArray)) (inner := [.string (⟨#[99]⟩ : ByteArray)]) (ok := fun _ => True) (okp := fun _ => True) ?hr ?hp (fun _ hk => hk) trivial (Below.refl _ _) (Nat.le_refl _) (by simp) ?_; (case hd => rfl); (case hg => rfl); (case hr => first | (go_simp; done) | (go_simp; rfl)); (case hp => exact (Reps.one (show Kd.M Kd.string _ _ _ (⟨#[99]⟩ : ByteArray) [.string (⟨#[99]⟩ : ByteArray)] from rfl) (Reps.none _ _))); intro v334 w17 ho18 hb hg_ hnew_; clear hg_ hnew_; (first | rw [← Ny333.out] at ho18 | (simp only [Int.reduceToNat] at ho18; rw [← Ny333.out] at ho18)); have n0_ := Aside0.mk (Kd.R_elder' (by (with_reducible repeat (first | apply Kd.R_alloc | apply Kd.R_drewN | apply Kd.R_drew)); exact HO325.out) (Kd.R_base ho18) hb); have n1_ := Aside0.mk (Kd.R_below (by (with_reducible repeat (first | apply Kd.R_alloc | apply Kd.R_drewN | apply Kd.R_drew)); exact HO329.out) hb); have n2_ := Aside0.mk (Kd.R_elder' (by (with_reducible repeat (first | apply Kd.R_alloc | apply Kd.R_drewN | apply Kd.R_drew)); exact HO332.out) (Kd.R_base ho18) hb); have n3_ := Aside0.mk (Kd.R_lower (Kd.R_new' (Kd.R_new' ho18 (Kd.R_lt (by (with_reducible repeat (first | apply Kd.R_alloc | apply Kd.R_drewN | apply Kd.R_drew)); exact HO325.out))) (Kd.R_lt (by (with_reducible repeat (first | apply Kd.R_alloc | apply Kd.R_drewN | apply Kd.R_drew)); exact HO332.out))) (below_size (by repeat (first | (with_reducible first | exact HB.out | apply below_alloc | apply pw_below_drewN | apply below_drew1) | exact HB.out)))); have n4_ := Aside0.mk (below_step (by repeat (first | (with_reducible first | exact HB.out | apply below_alloc | apply pw_below_drewN | apply below_drew1) | exact HB.out)) hb); clear HO325; clear HO329; clear HO332; clear HB; have HO325 := n0_; have HO329 := n1_; have HO332 := n2_; have HO335 := n3_; have HB := n4_; clear n0_ n1_ n2_ n3_ n4_; clear hb ho18; obtain ⟨Ao19, co19, eo19⟩ := Kd.R_slice HO332.out; subst eo19; obtain ⟨Ao20, co20, eo20⟩ := Kd.R_slice HO335.out; subst eo20) | ((with_reducible refine gate_callee (f := 9) rfl ?_); refine goesL_ (some 15) rfl rfl Tryz.func9 (by kernel_rfl) rfl #[.slice Ao19 y330.length co19, .slice Ao20 y333.length co20] rfl (by (try simp only [List.map_toArray, List.map_cons, List.map_nil]); first | done | rfl | (simp only [List.length_drop, List.length_take]; rfl)) ?_; (with_reducible refine (proof_Diff.calls k _ _ y330 _ _ y333 t336 t337 _ ?side1 ?side2 ?side3 ?side4 A2.out).mono ?_); (case side1 => repeat (first | exact (Kd.R_reads' HO332.out).2.2 | (with_reducible refine Kd.C_alloc ?_ _) | (with_reducible refine Kd.C_drewN ?_ _) | (with_reducible refine Kd.C_drew ?_))); (case side2 => exact (Kd.R_reads' HO332.out).2.1); (case side3 => repeat (first | exact (Kd.R_reads' HO335.out).2.2 | (with_reducible refine Kd.C_alloc ?_ _) | (with_reducible refine Kd.C_drewN ?_ _) | (with_reducible refine Kd.C_drew ?_))); (case side4 => exact (Kd.R_reads' HO335.out).2.1); rintro e w21 ⟨v338, rfl, ho0, hb⟩; refine ⟨_, rfl, ?_⟩; have n0_ := Aside0.mk (Kd.R_below (by (with_reducible repeat (first | apply Kd.R_alloc | apply Kd.R_drewN | apply Kd.R_drew)); exact HO325.out) hb); have n1_ := Aside0.mk (Kd.R_below (by (with_reducible repeat (first | apply Kd.R_alloc | apply Kd.R_drewN | apply Kd.R_drew)); exact HO329.out) hb); have n2_ := Aside0.mk (Kd.R_below (by (with_reducible repeat (first | apply Kd.R_alloc | apply Kd.R_drewN | apply Kd.R_drew)); exact HO332.out) hb); have n3_ := Aside0.mk (Kd.R_below (by (with_reducible repeat (first | apply Kd.R_alloc | apply Kd.R_drewN | apply Kd.R_drew)); exact HO335.out) hb); have n4_ := Aside0.mk (Kd.R_lower ho0 (below_size (by repeat (first | (with_reducible first | exact HB.out | apply below_alloc | apply pw_below_drewN | apply below_drew1) | exact HB.out)))); have n5_ := Aside0.mk (below_step (by repeat (first | (with_reducible first | exact HB.out | apply below_alloc | apply pw_below_drewN | apply below_drew1) | exact HB.out)) hb); clear HO325; clear HO329; clear HO332; clear HO335; clear HB; have HO325 := n0_; have HO329 := n1_; have HO332 := n2_; have HO335 := n3_; have HO339 := n4_; have HB := n5_; clear n0_ n1_ n2_ n3_ n4_ n5_; (try clear hb); (try clear hb2); (try clear hk); (try clear hi); (try clear ho0)) | ((with_reducible refine gate_dst (N := 19) rfl ?_); (try (refine gate_guard (by rfl) ?_; dsimp only)); refine Kd.R_lit Kd.string _ 9 ?hg (N := 19) ?hd (xs := ([(⟨#[97, 110, 110, 97]⟩ : ByteArray), (⟨#[98, 101, 110]⟩ : ByteArray)] : List ByteArray)) (inner := [.string (⟨#[97, 110, 110, 97]⟩ : ByteArray), .string (⟨#[98, 101, 110]⟩ : ByteArray)]) (ok := fun _ => True) (okp := fun _ => True) ?hr ?hp (fun _ hk => hk) trivial (Below.refl _ _) (Nat.le_refl _) (by simp) ?_; (case hd => rfl); (case hg => rfl); (case hr => first | (go_simp; done) | (go_simp; rfl)); (case hp => exact (Reps.one (show Kd.M Kd.string _ _ _ (⟨#[97, 110, 110, 97]⟩ : ByteArray) [.string (⟨#[97, 110, 110, 97]⟩ : ByteArray)] from rfl) (Reps.one (show Kd.M Kd.string _ _ _ (⟨#[98, 101, 110]⟩ : ByteArray) [.string (⟨#[98, 101, 110]⟩ : ByteArray)] from rfl) (Reps.none _ _)))); intro v341 w22 ho23 hb hg_ hnew_; clear hg_ hnew_; (first | rw [← Ny340.out] at ho23 | (simp only [Int.reduceToNat] at ho23; rw [← Ny340.out] at ho23)); have n0_ := Aside0.mk (Kd.R_elder' (by (with_reducible repeat (first | apply Kd.R_alloc | apply Kd.R_drewN | apply Kd.R_drew)); exact HO325.out) (Kd.R_base ho23) hb); have n1_ := Aside0.mk (Kd.R_below (by (with_reducible repeat (first | apply Kd.R_alloc | apply Kd.R_drewN | apply Kd.R_drew)); exact HO329.out) hb); have n2_ := Aside0.mk (Kd.R_elder' (by (with_reducible repeat (first | apply Kd.R_alloc | apply Kd.R_drewN | apply Kd.R_drew)); exact HO332.out) (Kd.R_base ho23) hb); have n3_ := Aside0.mk (Kd.R_elder' (by (with_reducible repeat (first | apply Kd.R_alloc | apply Kd.R_drewN | apply Kd.R_drew)); exact HO335.out) (Kd.R_base ho23) hb); have n4_ := Aside0.mk (Kd.R_below (by (with_reducible repeat (first | apply Kd.R_alloc | apply Kd.R_drewN | apply Kd.R_drew)); exact HO339.out) hb); have n5_ := Aside0.mk (Kd.R_lower (Kd.R_new' (Kd.R_new' (Kd.R_new' ho23 (Kd.R_lt (by (with_reducible repeat (first | apply Kd.R_alloc | apply Kd.R_drewN | apply Kd.R_drew)); exact HO325.out))) (Kd.R_lt (by (with_reducible repeat (first | apply Kd.R_alloc | apply Kd.R_drewN | apply Kd.R_drew)); exact HO332.out))) (Kd.R_lt (by (with_reducible repeat (first | apply Kd.R_alloc | apply Kd.R_drewN | apply Kd.R_drew)); exact HO335.out))) (below_size (by repeat (first | (with_reducible first | exact HB.out | apply below_alloc | apply pw_below_drewN | apply below_drew1) | exact HB.out)))); have n6_ := Aside0.mk (below_step (by repeat (first | (with_reducible first | exact HB.out | apply below_alloc | apply pw_below_drewN | apply below_drew1) | exact HB.out)) hb); clear HO325; clear HO329; clear HO332; clear HO335; clear HO339; clear HB; have HO325 := n0_; have HO329 := n1_; have HO332 := n2_; have HO335 := n3_; have HO339 := n4_; have HO342 := n5_; have HB := n6_; clear n0_ n1_ n2_ n3_ n4_ n5_ n6_; clear hb ho23) | ((with_reducible refine gate_dst (N := 20) rfl ?_); (try (refine gate_guard (by rfl) ?_; dsimp only)); refine Kd.R_lit Kd.string _ 9 ?hg (N := 20) ?hd (xs := ([(⟨#[97, 110, 110, 97]⟩ : ByteArray), (⟨#[99, 121, 100]⟩ : ByteArray)] : List ByteArray)) (inner := [.string (⟨#[97, 110, 110, 97]⟩ : ByteArray), .string (⟨#[99, 121, 100]⟩ : ByteArray)]) (ok := fun _ => True) (okp := fun _ => True) ?hr ?hp (fun _ hk => hk) trivial (Below.refl _ _) (Nat.le_refl _) (by simp) ?_; (case hd => rfl); (case hg => rfl); (case hr => first | (go_simp; done) | (go_simp; rfl)); (case hp => exact (Reps.one (show Kd.M Kd.string _ _ _ (⟨#[97, 110, 110, 97]⟩ : ByteArray) [.string (⟨#[97, 110, 110, 97]⟩ : ByteArray)] from rfl) (Reps.one (show Kd.M Kd.string _ _ _ (⟨#[99, 121, 100]⟩ : ByteArray) [.string (⟨#[99, 121, 100]⟩ : ByteArray)] from rfl) (Reps.none _ _)))); intro v344 w24 ho25 hb hg_ hnew_; clear hg_ hnew_; (first | rw [← Ny343.out] at ho25 | (simp only [Int.reduceToNat] at ho25; rw [← Ny343.out] at ho25)); have n0_ := Aside0.mk (Kd.R_elder' (by (with_reducible repeat (first | apply Kd.R_alloc | apply Kd.R_drewN | apply Kd.R_drew)); exact HO325.out) (Kd.R_base ho25) hb); have n1_ := Aside0.mk (Kd.R_below (by (with_reducible repeat (first | apply Kd.R_alloc | apply Kd.R_drewN | apply Kd.R_drew)); exact HO329.out) hb); have n2_ := Aside0.mk (Kd.R_elder' (by (with_reducible repeat (first | apply Kd.R_alloc | apply Kd.R_drewN | apply Kd.R_drew)); exact HO332.out) (Kd.R_base ho25) hb); have n3_ := Aside0.mk (Kd.R_elder' (by (with_reducible repeat (first | apply Kd.R_alloc | apply Kd.R_drewN | apply Kd.R_drew)); exact HO335.out) (Kd.R_base ho25) hb); have n4_ := Aside0.mk (Kd.R_below (by (with_reducible repeat (first | apply Kd.R_alloc | apply Kd.R_drewN | apply Kd.R_drew)); exact HO339.out) hb); have n5_ := Aside0.mk (Kd.R_elder' (by (with_reducible repeat (first | apply Kd.R_alloc | apply Kd.R_drewN | apply Kd.R_drew)); exact HO342.out) (Kd.R_base ho25) hb); have n6_ := Aside0.mk (Kd.R_lower (Kd.R_new' (Kd.R_new' (Kd.R_new' (Kd.R_new' ho25 (Kd.R_lt (by (with_reducible repeat (first | apply Kd.R_alloc | apply Kd.R_drewN | apply Kd.R_drew)); exact HO325.out))) (Kd.R_lt (by (with_reducible repeat (first | apply Kd.R_alloc | apply Kd.R_drewN | apply Kd.R_drew)); exact HO332.out))) (Kd.R_lt (by (with_reducible repeat (first | apply Kd.R_alloc | apply Kd.R_drewN | apply Kd.R_drew)); exact HO335.out))) (Kd.R_lt (by (with_reducible repeat (first | apply Kd.R_alloc | apply Kd.R_drewN | apply Kd.R_drew)); exact HO342.out))) (below_size (by repeat (first | (with_reducible first | exact HB.out | apply below_alloc | apply pw_below_drewN | apply below_drew1) | exact HB.out)))); have n7_ := Aside0.mk (below_step (by repeat (first | (with_reducible first | exact HB.out | apply below_alloc | apply pw_below_drewN | apply below_drew1) | exact HB.out)) hb); clear HO325; clear HO329; clear HO332; clear HO335; clear HO339; clear HO342; clear HB; have HO325 := n0_; have HO329 := n1_; have HO332 := n2_; have HO335 := n3_; have HO339 := n4_; have HO342 := n5_; have HO345 := n6_; have HB := n7_; clear n0_ n1_ n2_ n3_ n4_ n5_ n6_ n7_; clear hb ho25; obtain ⟨Ao26, co26, eo26⟩ := Kd.R_slice HO342.out; subst eo26; obtain ⟨Ao27, co27, eo27⟩ := Kd.R_slice HO345.out; subst eo27) | ((with_reducible refine gate_dst (N := 21) rfl ?_); (try (refine gate_guard (by rfl) ?_; dsimp only)); refine Kd.N_lit (Kd.slice 9 Kd.string) _ 25 ?hg (N' := 21) ?hd (xs := ([y340, y343] : List (List ByteArray))) (inner := [.slice Ao26 y340.length co26, .slice Ao27 y343.length co27]) (ok := (fun k_ => some k_ ≠ (.slice Ao13 y323.length co13 : Value).ownBlock ∧ some k_ ≠ (v328 : Value).ownBlock ∧ some k_ ≠ (.slice Ao19 y330.length co19 : Value).ownBlock ∧ some k_ ≠ (.slice Ao20 y333.length co20 : Value).ownBlock ∧ some k_ ≠ (v338 : Value).ownBlock)) (okp := (fun k_ => some k_ ≠ (.slice Ao13 y323.length co13 : Value).ownBlock ∧ some k_ ≠ (v328 : Value).ownBlock ∧ some k_ ≠ (.slice Ao19 y330.length co19 : Value).ownBlock ∧ some k_ ≠ (.slice Ao20 y333.length co20 : Value).ownBlock ∧ some k_ ≠ (v338 : Value).ownBlock)) ?hr ?hp (fun _ hk => hk) ((show ∀ k_, w24.heap.size ≤ k_ → (fun k_ => some k_ ≠ (.slice Ao13 y323.length co13 : Value).ownBlock ∧ some k_ ≠ (v328 : Value).ownBlock ∧ some k_ ≠ (.slice Ao19 y330.length co19 : Value).ownBlock ∧ some k_ ≠ (.slice Ao20 y333.length co20 : Value).ownBlock ∧ some k_ ≠ (v338 : Value).ownBlock) k_ from fun k_ hk => ⟨Kd.fresh' (Kd.R_lt (by (with_reducible repeat (first | apply Kd.R_alloc | apply Kd.R_drewN | apply Kd.R_drew)); exact HO325.out)) k_ hk, Kd.fresh' (Kd.R_lt (by (with_reducible repeat (first | apply Kd.R_alloc | apply Kd.R_drewN | apply Kd.R_drew)); exact HO329.out)) k_ hk, Kd.fresh' (Kd.R_lt (by (with_reducible repeat (first | apply Kd.R_alloc | apply Kd.R_drewN | apply Kd.R_drew)); exact HO332.out)) k_ hk, Kd.fresh' (Kd.R_lt (by (with_reducible repeat (first | apply Kd.R_alloc | apply Kd.R_drewN | apply Kd.R_drew)); exact HO335.out)) k_ hk, Kd.fresh' (Kd.R_lt (by (with_reducible repeat (first | apply Kd.R_alloc | apply Kd.R_drewN | apply Kd.R_drew)); exact HO339.out)) k_ hk⟩) _ (Nat.le_refl _)) (Below.refl _ _) (Nat.le_refl _) (by simp) ?_; (case hd => rfl); (case hg => rfl); (case hr => first | (go_simp; done) | (go_simp; rfl)); (case hp => exact (Reps.one (show Kd.FK (Kd.slice 9 Kd.string) _ _ y340 [.slice Ao26 y340.length co26] from (Kd.FK_slice_mk (Kd.R_reads' (Kd.R_mono (ok' := (fun k_ => some k_ ≠ (.slice Ao13 y323.length co13 : Value).ownBlock ∧ some k_ ≠ (v328 : Value).ownBlock ∧ some k_ ≠ (.slice Ao19 y330.length co19 : Value).ownBlock ∧ some k_ ≠ (.slice Ao20 y333.length co20 : Value).ownBlock ∧ some k_ ≠ (v338 : Value).ownBlock)) (Kd.R_apart' (Kd.R_apart' (HO342.out) (Kd.R_typed HO329.out) (by decide)) (Kd.R_typed HO339.out) (by decide)) (fun k_ hk => ⟨hk.1.1.1.1.1.2, ⟨hk.1.2, ⟨hk.1.1.1.1.2, ⟨hk.1.1.1.2, hk.2⟩⟩⟩⟩))).2.1 (Kd.R_F (Kd.R_mono (ok' := (fun k_ => some k_ ≠ (.slice Ao13 y323.length co13 : Value).ownBlock ∧ some k_ ≠ (v328 : Value).ownBlock ∧ some k_ ≠ (.slice Ao19 y330.length co19 : Value).ownBlock ∧ some k_ ≠ (.slice Ao20 y333.length co20 : Value).ownBlock ∧ some k_ ≠ (v338 : Value).ownBlock)) (Kd.R_apart' (Kd.R_apart' (HO342.out) (Kd.R_typed HO329.out) (by decide)) (Kd.R_typed HO339.out) (by decide)) (fun k_ hk => ⟨hk.1.1.1.1.1.2, ⟨hk.1.2, ⟨hk.1.1.1.1.2, ⟨hk.1.1.1.2, hk.2⟩⟩⟩⟩))))) (Reps.one (show Kd.FK (Kd.slice 9 Kd.string) _ _ y343 [.slice Ao27 y343.length co27] from (Kd.FK_slice_mk (Kd.R_reads' (Kd.R_mono (ok' := (fun k_ => some k_ ≠ (.slice Ao13 y323.length co13 : Value).ownBlock ∧ some k_ ≠ (v328 : Value).ownBlock ∧ some k_ ≠ (.slice Ao19 y330.length co19 : Value).ownBlock ∧ some k_ ≠ (.slice Ao20 y333.length co20 : Value).ownBlock ∧ some k_ ≠ (v338 : Value).ownBlock)) (Kd.R_apart' (Kd.R_apart' (HO345.out) (Kd.R_typed HO329.out) (by decide)) (Kd.R_typed HO339.out) (by decide)) (fun k_ hk => ⟨hk.1.1.1.1.1.2, ⟨hk.1.2, ⟨hk.1.1.1.1.2, ⟨hk.1.1.1.2, hk.2⟩⟩⟩⟩))).2.1 (Kd.R_F (Kd.R_mono (ok' := (fun k_ => some k_ ≠ (.slice Ao13 y323.length co13 : Value).ownBlock ∧ some k_ ≠ (v328 : Value).ownBlock ∧ some k_ ≠ (.slice Ao19 y330.length co19 : Value).ownBlock ∧ some k_ ≠ (.slice Ao20 y333.length co20 : Value).ownBlock ∧ some k_ ≠ (v338 : Value).ownBlock)) (Kd.R_apart' (Kd.R_apart' (HO345.out) (Kd.R_typed HO329.out) (by decide)) (Kd.R_typed HO339.out) (by decide)) (fun k_ hk => ⟨hk.1.1.1.1.1.2, ⟨hk.1.2, ⟨hk.1.1.1.1.2, ⟨hk.1.1.1.2, hk.2⟩⟩⟩⟩))))) (Reps.none _ _)))); intro v347 w28 ho29 hb hg_ hnew_; clear hg_ hnew_; (first | rw [← Ny346.out] at ho29 | (simp only [Int.reduceToNat] at ho29; rw [← Ny346.out] at ho29)); have n0_ := Aside0.mk (Kd.R_below (by (with_reducible repeat (first | apply Kd.R_alloc | apply Kd.R_drewN | apply Kd.R_drew)); exact HO325.out) hb); have n1_ := Aside0.mk (Kd.R_below (by (with_reducible repeat (first | apply Kd.R_alloc | apply Kd.R_drewN | apply Kd.R_drew)); exact HO329.out) hb); have n2_ := Aside0.mk (Kd.R_below (by (with_reducible repeat (first | apply Kd.R_alloc | apply Kd.R_drewN | apply Kd.R_drew)); exact HO332.out) hb); have n3_ := Aside0.mk (Kd.R_below (by (with_reducible repeat (first | apply Kd.R_alloc | apply Kd.R_drewN | apply Kd.R_drew)); exact HO335.out) hb); have n4_ := Aside0.mk (Kd.R_below (by (with_reducible repeat (first | apply Kd.R_alloc | apply Kd.R_drewN | apply Kd.R_drew)); exact HO339.out) hb); have n5_ := Aside0.mk (Kd.N_lower ho29 (below_size (by repeat (first | (with_reducible first | exact HB.out | apply below_alloc | apply pw_below_drewN | apply below_drew1) | exact HB.out)))); have n6_ := Aside0.mk (below_step (by repeat (first | (with_reducible first | exact HB.out | apply below_alloc | apply pw_below_drewN | apply below_drew1) | exact HB.out)) hb); clear HO325; clear HO329; clear HO332; clear HO335; clear HO339; clear HB; clear HO342; clear HO345; have HO325 := n0_; have HO329 := n1_; have HO332 := n2_; have HO335 := n3_; have HO339 := n4_; have HO348 := n5_; have HB := n6_; clear n0_ n1_ n2_ n3_ n4_ n5_ n6_; clear hb ho29) | ((with_reducible refine gate_dst (N := 22) rfl ?_); (try (refine gate_guard (by rfl) ?_; dsimp only)); refine Kd.R_lit Kd.string _ 9 ?hg (N := 22) ?hd (xs := ([(⟨#[97, 110, 110, 97]⟩ : ByteArray), (⟨#[98, 101, 110]⟩ : ByteArray), (⟨#[99, 121, 100]⟩ : ByteArray)] : List ByteArray)) (inner := [.string (⟨#[97, 110, 110, 97]⟩ : ByteArray), .string (⟨#[98, 101, 110]⟩ : ByteArray), .string (⟨#[99, 121, 100]⟩ : ByteArray)]) (ok := fun _ => True) (okp := fun _ => True) ?hr ?hp (fun _ hk => hk) trivial (Below.refl _ _) (Nat.le_refl _) (by simp) ?_; (case hd => rfl); (case hg => rfl); (case hr => first | (go_simp; done) | (go_simp; rfl)); (case hp => exact (Reps.one (show Kd.M Kd.string _ _ _ (⟨#[97, 110, 110, 97]⟩ : ByteArray) [.string (⟨#[97, 110, 110, 97]⟩ : ByteArray)] from rfl) (Reps.one (show Kd.M Kd.string _ _ _ (⟨#[98, 101, 110]⟩ : ByteArray) [.string (⟨#[98, 101, 110]⟩ : ByteArray)] from rfl) (Reps.one (show Kd.M Kd.string _ _ _ (⟨#[99, 121, 100]⟩ : ByteArray) [.string (⟨#[99, 121, 100]⟩ : ByteArray)] from rfl) (Reps.none _ _))))); intro v350 w30 ho31 hb hg_ hnew_; clear hg_ hnew_; (first | rw [← Ny349.out] at ho31 | (simp only [Int.reduceToNat] at ho31; rw [← Ny349.out] at ho31)); have n0_ := Aside0.mk (Kd.R_elder' (by (with_reducible repeat (first | apply Kd.R_alloc | apply Kd.R_drewN | apply Kd.R_drew)); exact HO325.out) (Kd.R_base ho31) hb); have n1_ := Aside0.mk (Kd.R_below (by (with_reducible repeat (first | apply Kd.R_alloc | apply Kd.R_drewN | apply Kd.R_drew)); exact HO329.out) hb); have n2_ := Aside0.mk (Kd.R_elder' (by (with_reducible repeat (first | apply Kd.R_alloc | apply Kd.R_drewN | apply Kd.R_drew)); exact HO332.out) (Kd.R_base ho31) hb); have n3_ := Aside0.mk (Kd.R_elder' (by (with_reducible repeat (first | apply Kd.R_alloc | apply Kd.R_drewN | apply Kd.R_drew)); exact HO335.out) (Kd.R_base ho31) hb); have n4_ := Aside0.mk (Kd.R_below (by (with_reducible repeat (first | apply Kd.R_alloc | apply Kd.R_drewN | apply Kd.R_drew)); exact HO339.out) hb); have n5_ := Aside0.mk (Kd.N_elder' (by (with_reducible repeat (first | apply Kd.N_alloc | apply Kd.N_drewN | apply Kd.N_drew)); exact HO348.out) (Kd.R_base ho31) hb); have n6_ := Aside0.mk (Kd.R_lower (Kd.R_new' (Kd.R_new' (Kd.R_new' ho31 (Kd.R_lt (by (with_reducible repeat (first | apply Kd.R_alloc | apply Kd.R_drewN | apply Kd.R_drew)); exact HO325.out))) (Kd.R_lt (by (with_reducible repeat (first | apply Kd.R_alloc | apply Kd.R_drewN | apply Kd.R_drew)); exact HO332.out))) (Kd.R_lt (by (with_reducible repeat (first | apply Kd.R_alloc | apply Kd.R_drewN | apply Kd.R_drew)); exact HO335.out))) (below_size (by repeat (first | (with_reducible first | exact HB.out | apply below_alloc | apply pw_below_drewN | apply below_drew1) | exact HB.out)))); have n7_ := Aside0.mk (below_step (by repeat (first | (with_reducible first | exact HB.out | apply below_alloc | apply pw_below_drewN | apply below_drew1) | exact HB.out)) hb); clear HO325; clear HO329; clear HO332; clear HO335; clear HO339; clear HO348; clear HB; have HO325 := n0_; have HO329 := n1_; have HO332 := n2_; have HO335 := n3_; have HO339 := n4_; have HO348 := n5_; have HO351 := n6_; have HB := n7_; clear n0_ n1_ n2_ n3_ n4_ n5_ n6_ n7_; clear hb ho31; obtain ⟨Ao32, co32, eo32⟩ := Kd.N_slice HO348.out; subst eo32; obtain ⟨Ao33, co33, eo33⟩ := Kd.R_slice HO351.out; subst eo33) | ((with_reducible refine gate_callee (f := 13) rfl ?_); refine goesL_ (some 23) rfl rfl Tryz.func13 (by kernel_rfl) rfl #[.slice Ao32 y346.length co32, .slice none 0 0, .slice Ao33 y349.length co33] rfl (by (try simp only [List.map_toArray, List.map_cons, List.map_nil]); first | done | rfl | (simp only [List.length_drop, List.length_take]; rfl)) ?_; (refine (proof_Look.calls k _ _ y346 _ _ ([] : List (S42)) _ _ y349 t352 t353 t354 _ ?side1 ?side2 ?side3 ?side4 ?side5 ?side6 A3.out (by decide) (by rintro rfl; exact absurd c7b0 (by simp))).mono ?_); (case side1 => repeat (first | exact (Kd.N_reads' HO348.out).2.2 | (with_reducible refine Kd.C_alloc ?_ _) | (with_reducible refine Kd.C_drewN ?_ _) | (with_reducible refine Kd.C_drew ?_))); (case side2 => exact (Kd.N_reads' HO348.out).2.1); (case side3 => exact Kd.C_nil _ _); (case side4 => exact Nat.le_refl _); (case side5 => repeat (first | exact (Kd.R_reads' HO351.out).2.2 | (with_reducible refine Kd.C_alloc ?_ _) | (with_reducible refine Kd.C_drewN ?_ _) | (with_reducible refine Kd.C_drew ?_))); (case side6 => exact (Kd.R_reads' HO351.out).2.1); rintro e w34 ⟨rfl, hb⟩; refine ⟨_, rfl, ?_⟩; have n0_ := Aside0.mk (Kd.R_below (by (with_reducible repeat (first | apply Kd.R_alloc | apply Kd.R_drewN | apply Kd.R_drew)); exact HO325.out) hb); have n1_ := Aside0.mk (Kd.R_below (by (with_reducible repeat (first | apply Kd.R_alloc | apply Kd.R_drewN | apply Kd.R_drew)); exact HO329.out) hb); have n2_ := Aside0.mk (Kd.R_below (by (with_reducible repeat (first | apply Kd.R_alloc | apply Kd.R_drewN | apply Kd.R_drew)); exact HO332.out) hb); have n3_ := Aside0.mk (Kd.R_below (by (with_reducible repeat (first | apply Kd.R_alloc | apply Kd.R_drewN | apply Kd.R_drew)); exact HO335.out) hb); have n4_ := Aside0.mk (Kd.R_below (by (with_reducible repeat (first | apply Kd.R_alloc | apply Kd.R_drewN | apply Kd.R_drew)); exact HO339.out) hb); have n5_ := Aside0.mk (Kd.N_below (by (with_reducible repeat (first | apply Kd.N_alloc | apply Kd.N_drewN | apply Kd.N_drew)); exact HO348.out) hb); have n6_ := Aside0.mk (Kd.R_below (by (with_reducible repeat (first | apply Kd.R_alloc | apply Kd.R_drewN | apply Kd.R_drew)); exact HO351.out) hb); have n7_ := Aside0.mk (below_step (by repeat (first | (with_reducible first | exact HB.out | apply below_alloc | apply pw_below_drewN | apply below_drew1) | exact HB.out)) hb); clear HO325; clear HO329; clear HO332; clear HO335; clear HO339; clear HO348; clear HO351; clear HB; have HO325 := n0_; have HO329 := n1_; have HO332 := n2_; have HO335 := n3_; have HO339 := n4_; have HO348 := n5_; have HO351 := n6_; have HB := n7_; clear n0_ n1_ n2_ n3_ n4_ n5_ n6_ n7_; (try clear hb); (try clear hb2); (try clear hk); (try clear hi)) | ((with_reducible refine gate_dst (N := 5) rfl ?_); (try (refine gate_guard (by rfl) ?_; dsimp only)); refine box_event ?hg (N := 5) ?hd (cs := #[.int .i64 0, .int .i64 0]) (t := 44) ?hr ?_; (case hd => rfl); (case hg => rfl); (case hr => first | (go_simp; done) | (go_simp; rfl)); intro gb355 hg w35 hbox hb; have n0_ := Aside0.mk (Kd.R_below (by (with_reducible repeat (first | apply Kd.R_alloc | apply Kd.R_drewN | apply Kd.R_drew)); exact HO325.out) hb); have n1_ := Aside0.mk (Kd.R_below (by (with_reducible repeat (first | apply Kd.R_alloc | apply Kd.R_drewN | apply Kd.R_drew)); exact HO329.out) hb); have n2_ := Aside0.mk (Kd.R_below (by (with_reducible repeat (first | apply Kd.R_alloc | apply Kd.R_drewN | apply Kd.R_drew)); exact HO332.out) hb); have n3_ := Aside0.mk (Kd.R_below (by (with_reducible repeat (first | apply Kd.R_alloc | apply Kd.R_drewN | apply Kd.R_drew)); exact HO335.out) hb); have n4_ := Aside0.mk (Kd.R_below (by (with_reducible repeat (first | apply Kd.R_alloc | apply Kd.R_drewN | apply Kd.R_drew)); exact HO339.out) hb); have n5_ := Aside0.mk (Kd.N_below (Kd.N_elderB (by (with_reducible repeat (first | apply Kd.N_alloc | apply Kd.N_drewN | apply Kd.N_drew)); exact HO348.out) gb355 (Nat.le_of_eq hg.symm)) hb); have n6_ := Aside0.mk (Kd.R_below (by (with_reducible repeat (first | apply Kd.R_alloc | apply Kd.R_drewN | apply Kd.R_drew)); exact HO351.out) hb); have n7_ := Aside0.mk (below_step (by repeat (first | (with_reducible first | exact HB.out | apply below_alloc | apply pw_below_drewN | apply below_drew1) | exact HB.out)) hb); have n8_ := Aside0.mk (hbox); have n9_ := Aside0.mk ((by rw [hg]; exact (below_size (by repeat (first | (with_reducible first | exact HB.out | apply below_alloc | apply pw_below_drewN | apply below_drew1) | exact HB.out))) : w.heap.size ≤ gb355)); have n10_ := n9_; clear HO325; clear HO329; clear HO332; clear HO335; clear HO339; clear HO348; clear HO351; clear HB; have HO325 := n0_; have HO329 := n1_; have HO332 := n2_; have HO335 := n3_; have HO339 := n4_; have HO348 := n5_; have HO351 := n6_; have HB := n7_; have BK355 := n8_; have GW355 := n9_; have GE355 := n10_; clear n0_ n1_ n2_ n3_ n4_ n5_ n6_ n7_ n8_ n9_ n10_; clear hb hbox hg; have hcz36_0 : w35.cell? ⟨gb355, 0, none⟩ = some (.int .i64 0) := (blk_cell BK355.out 0).trans rfl; have hcz36_1 : w35.cell? ⟨gb355, 1, none⟩ = some (.int .i64 0) := (blk_cell BK355.out 1).trans rfl; have hfz36_0 := blk_frozen BK355.out 0; have hfz36_1 := blk_frozen BK355.out 1) | ((with_reducible refine gate_dst (N := 43) rfl ?_); (try (refine gate_guard (by rfl) ?_; dsimp only)); refine Kd.R_lit (Kd.int .i64) _ 3 ?hg (N := 43) ?hd (xs := ([2, 3, 0, 1] : List Int)) (inner := [.int .i64 2, .int .i64 3, .int .i64 0, .int .i64 1]) (ok := fun _ => True) (okp := fun _ => True) ?hr ?hp (fun _ hk => hk) trivial (Below.refl _ _) (Nat.le_refl _) (by simp) ?_; (case hd => rfl); (case hg => rfl); (case hr => first | (go_simp; done) | (go_simp; rfl)); (case hp => exact (Reps.one (show Kd.M (Kd.int .i64) _ _ _ 2 [.int .i64 2] from rfl) (Reps.one (show Kd.M (Kd.int .i64) _ _ _ 3 [.int .i64 3] from rfl) (Reps.one (show Kd.M (Kd.int .i64) _ _ _ 0 [.int .i64 0] from rfl) (Reps.one (show Kd.M (Kd.int .i64) _ _ _ 1 [.int .i64 1] from rfl) (Reps.none _ _)))))); intro v357 w37 ho38 hb hg_ hnew_; clear hg_ hnew_; (first | rw [← Ny356.out] at ho38 | (simp only [Int.reduceToNat] at ho38; rw [← Ny356.out] at ho38)); have n0_ := Aside0.mk (Kd.R_below (by (with_reducible repeat (first | apply Kd.R_alloc | apply Kd.R_drewN | apply Kd.R_drew)); exact (Kd.R_mono (Kd.R_far (p := ⟨gb355, 1, none⟩) (Kd.R_far (p := ⟨gb355, 0, none⟩) (Kd.R_types HO325.out BK355.out (by decide)) (fun _ hk => hk.2) (.int .i64 t352)) (fun _ hk => hk.2) (.int .i64 t353)) (fun _ h_ => h_.1))) hb); have n1_ := Aside0.mk (Kd.R_elder' (by (with_reducible repeat (first | apply Kd.R_alloc | apply Kd.R_drewN | apply Kd.R_drew)); exact (Kd.R_mono (Kd.R_far (p := ⟨gb355, 1, none⟩) (Kd.R_far (p := ⟨gb355, 0, none⟩) (Kd.R_types HO329.out BK355.out (by decide)) (fun _ hk => hk.2) (.int .i64 t352)) (fun _ hk => hk.2) (.int .i64 t353)) (fun _ h_ => h_.1))) (Kd.R_base ho38) hb); have n2_ := Aside0.mk (Kd.R_below (by (with_reducible repeat (first | apply Kd.R_alloc | apply Kd.R_drewN | apply Kd.R_drew)); exact (Kd.R_mono (Kd.R_far (p := ⟨gb355, 1, none⟩) (Kd.R_far (p := ⟨gb355, 0, none⟩) (Kd.R_types HO332.out BK355.out (by decide)) (fun _ hk => hk.2) (.int .i64 t352)) (fun _ hk => hk.2) (.int .i64 t353)) (fun _ h_ => h_.1))) hb); have n3_ := Aside0.mk (Kd.R_below (by (with_reducible repeat (first | apply Kd.R_alloc | apply Kd.R_drewN | apply Kd.R_drew)); exact (Kd.R_mono (Kd.R_far (p := ⟨gb355, 1, none⟩) (Kd.R_far (p := ⟨gb355, 0, none⟩) (Kd.R_types HO335.out BK355.out (by decide)) (fun _ hk => hk.2) (.int .i64 t352)) (fun _ hk => hk.2) (.int .i64 t353)) (fun _ h_ => h_.1))) hb); have n4_ := Aside0.mk (Kd.R_below (by (with_reducible repeat (first | apply Kd.R_alloc | apply Kd.R_drewN | apply Kd.R_drew)); exact (Kd.R_mono (Kd.R_far (p := ⟨gb355, 1, none⟩) (Kd.R_far (p := ⟨gb355, 0, none⟩) (Kd.R_types HO339.out BK355.out (by decide)) (fun _ hk => hk.2) (.int .i64 t352)) (fun _ hk => hk.2) (.int .i64 t353)) (fun _ h_ => h_.1))) hb); have n5_ := Aside0.mk (Kd.N_elder' (by (with_reducible repeat (first | apply Kd.N_alloc | apply Kd.N_drewN | apply Kd.N_drew)); exact (Kd.N_mono (Kd.N_far (p := ⟨gb355, 1, none⟩) (Kd.N_far (p := ⟨gb355, 0, none⟩) (Kd.N_mono HO348.out (fun k_ hk => (⟨hk, hk.2⟩ : _ ∧ k_ ≠ gb355))) (fun _ hk => hk.2) (.int .i64 t352)) (fun _ hk => hk.2) (.int .i64 t353)) (fun _ h_ => h_.1))) (Kd.R_base ho38) hb); have n6_ := Aside0.mk (Kd.R_below (by (with_reducible repeat (first | apply Kd.R_alloc | apply Kd.R_drewN | apply Kd.R_drew)); exact (Kd.R_mono (Kd.R_far (p := ⟨gb355, 1, none⟩) (Kd.R_far (p := ⟨gb355, 0, none⟩) (Kd.R_types HO351.out BK355.out (by decide)) (fun _ hk => hk.2) (.int .i64 t352)) (fun _ hk => hk.2) (.int .i64 t353)) (fun _ h_ => h_.1))) hb); have n7_ := Aside0.mk (Kd.R_lower (Kd.R_new' ho38 (Kd.R_lt (by (with_reducible repeat (first | apply Kd.R_alloc | apply Kd.R_drewN | apply Kd.R_drew)); exact (Kd.R_mono (Kd.R_far (p := ⟨gb355, 1, none⟩) (Kd.R_far (p := ⟨gb355, 0, none⟩) (Kd.R_types HO329.out BK355.out (by decide)) (fun _ hk => hk.2) (.int .i64 t352)) (fun _ hk => hk.2) (.int .i64 t353)) (fun _ h_ => h_.1))))) (below_size (by repeat (first | (with_reducible first | exact HB.out | apply below_alloc | apply pw_below_drewN | apply below_drew1 | refine below_set ?_ GE355.out) | exact HB.out)))); have n8_ := Aside0.mk (blk_below (g := gb355) (o := .cells #[.int .i64 t352, .int .i64 t353] 44 (0, 0)) (by (with_reducible repeat (first | refine blk_drewN ?_ _ | refine blk_drew ?_ | refine blk_alloc ?_ _)); refine blk_put (cs := #[.int .i64 t352, .int .i64 0]) ?_ 1 _ rfl; (with_reducible repeat (first | refine blk_drewN ?_ _ | refine blk_drew ?_ | refine blk_alloc ?_ _)); refine blk_put (cs := #[.int .i64 0, .int .i64 0]) ?_ 0 _ rfl; (with_reducible repeat (first | refine blk_drewN ?_ _ | refine blk_drew ?_ | refine blk_alloc ?_ _)); exact BK355.out) hb); have n9_ := Aside0.mk (below_step (by repeat (first | (with_reducible first | exact HB.out | apply below_alloc | apply pw_below_drewN | apply below_drew1 | refine below_set ?_ GE355.out) | exact HB.out)) hb); clear HO325; clear HO329; clear HO332; clear HO335; clear HO339; clear HO348; clear HO351; clear BK355; clear HB; have HO325 := n0_; have HO329 := n1_; have HO332 := n2_; have HO335 := n3_; have HO339 := n4_; have HO348 := n5_; have HO351 := n6_; have HO358 := n7_; have BK355 := n8_; have HB := n9_; clear n0_ n1_ n2_ n3_ n4_ n5_ n6_ n7_ n8_ n9_; clear hb ho38; obtain ⟨Ao39, co39, eo39⟩ := Kd.R_slice HO329.out; subst eo39; obtain ⟨Ao40, co40, eo40⟩ := Kd.R_slice HO358.out; subst eo40) | (go_at_call 20; (with_reducible refine (wayzgoosekit_EqInts.calls k _ _ t326 _ _ y356 true _ ?side1 ?side2 ?side3 ?side4 A8.out).mono ?_); (case side1 => repeat (first | exact (Kd.R_reads' HO329.out).2.2 | (with_reducible refine Kd.C_alloc ?_ _) | (with_reducible refine Kd.C_drewN ?_ _) | (with_reducible refine Kd.C_drew ?_))); (case side2 => exact (Kd.R_reads' HO329.out).2.1); (case side3 => repeat (first | exact (Kd.R_reads' HO358.out).2.2 | (with_reducible refine Kd.C_alloc ?_ _) | (with_reducible refine Kd.C_drewN ?_ _) | (with_reducible refine Kd.C_drew ?_))); (case side4 => exact (Kd.R_reads' HO358.out).2.1); rintro e w' ⟨rfl, ⟨nd, rfl⟩⟩) | ((with_reducible refine gate_dst (N := 50) rfl ?_); (try (refine gate_guard (by rfl) ?_; dsimp only)); refine Kd.R_lit k42 _ 42 ?hg (N := 50) ?hd (xs := ([(⟨2, 0, (⟨#[99]⟩ : ByteArray)⟩ : S42), (⟨3, 1, (⟨#[]⟩ : ByteArray)⟩ : S42)] : List (S42))) (inner := [.int .i64 2, .int .i64 0, .string (⟨#[99]⟩ : ByteArray), .int .i64 3, .int .i64 1, .string (⟨#[]⟩ : ByteArray)]) (ok := fun _ => True) (okp := fun _ => True) ?hr ?hp (fun _ hk => hk) trivial (Below.refl _ _) (Nat.le_refl _) (by simp) ?_; (case hd => rfl); (case hg => rfl); (case hr => first | (go_simp; done) | (go_simp; rfl)); (case hp => exact (Reps.c3 (show Kd.M k42 _ _ _ (⟨2, 0, (⟨#[99]⟩ : ByteArray)⟩ : S42) [.int .i64 2, .int .i64 0, .string (⟨#[99]⟩ : ByteArray)] from (k42_mkM _ _ _ (⟨2, 0, (⟨#[99]⟩ : ByteArray)⟩ : S42) )) (Reps.c3 (show Kd.M k42 _ _ _ (⟨3, 1, (⟨#[]⟩ : ByteArray)⟩ : S42) [.int .i64 3, .int .i64 1, .string (⟨#[]⟩ : ByteArray)] from (k42_mkM _ _ _ (⟨3, 1, (⟨#[]⟩ : ByteArray)⟩ : S42) )) (Reps.none _ _)))); intro v361 w41 ho42 hb hg_ hnew_; clear hg_ hnew_; (first | rw [← Ny360.out] at ho42 | (simp only [Int.reduceToNat] at ho42; rw [← Ny360.out] at ho42)); have n0_ := Aside0.mk (Kd.R_below (by (with_reducible repeat (first | apply Kd.R_alloc | apply Kd.R_drewN | apply Kd.R_drew)); exact HO325.out) hb); have n1_ := Aside0.mk (Kd.R_below (by (with_reducible repeat (first | apply Kd.R_alloc | apply Kd.R_drewN | apply Kd.R_drew)); exact HO329.out) hb); have n2_ := Aside0.mk (Kd.R_below (by (with_reducible repeat (first | apply Kd.R_alloc | apply Kd.R_drewN | apply Kd.R_drew)); exact HO332.out) hb); have n3_ := Aside0.mk (Kd.R_below (by (with_reducible repeat (first | apply Kd.R_alloc | apply Kd.R_drewN | apply Kd.R_drew)); exact HO335.out) hb); have n4_ := Aside0.mk (Kd.R_elder' (by (with_reducible repeat (first | apply Kd.R_alloc | apply Kd.R_drewN | apply Kd.R_drew)); exact HO339.out) (Kd.R_base ho42) hb); have n5_ := Aside0.mk (Kd.N_elder' (by (with_reducible repeat (first | apply Kd.N_alloc | apply Kd.N_drewN | apply Kd.N_drew)); exact HO348.out) (Kd.R_base ho42) hb); have n6_ := Aside0.mk (Kd.R_below (by (with_reducible repeat (first | apply Kd.R_alloc | apply Kd.R_drewN | apply Kd.R_drew)); exact HO351.out) hb); have n7_ := Aside0.mk (Kd.R_below (by (with_reducible repeat (first | apply Kd.R_alloc | apply Kd.R_drewN | apply Kd.R_drew)); exact HO358.out) hb); have n8_ := Aside0.mk (Kd.R_lower (Kd.R_new' ho42 (Kd.R_lt (by (with_reducible repeat (first | apply Kd.R_alloc | apply Kd.R_drewN | apply Kd.R_drew)); exact HO339.out))) (below_size (by repeat (first | (with_reducible first | exact HB.out | apply below_alloc | apply pw_below_drewN | apply below_drew1 | refine below_set ?_ GE355.out) | exact HB.out)))); have n9_ := Aside0.mk (blk_below (g := gb355) (o := .cells #[.int .i64 t352, .int .i64 t353] 44 (0, 0)) (by (with_reducible repeat (first | refine blk_drewN ?_ _ | refine blk_drew ?_ | refine blk_alloc ?_ _)); exact BK355.out) hb); have n10_ := Aside0.mk (below_step (by repeat (first | (with_reducible first | exact HB.out | apply below_alloc | apply pw_below_drewN | apply below_drew1 | refine below_set ?_ GE355.out) | exact HB.out)) hb); clear HO325; clear HO329; clear HO332; clear HO335; clear HO339; clear HO348; clear HO351; clear HO358; clear BK355; clear HB; have HO325 := n0_; have HO329 := n1_; have HO332 := n2_; have HO335 := n3_; have HO339 := n4_; have HO348 := n5_; have HO351 := n6_; have HO358 := n7_; have HO362 := n8_; have BK355 := n9_; have HB := n10_; clear n0_ n1_ n2_ n3_ n4_ n5_ n6_ n7_ n8_ n9_ n10_; clear hb ho42; obtain ⟨Ao43, co43, eo43⟩ := Kd.R_slice HO339.out; subst eo43; obtain ⟨Ao44, co44, eo44⟩ := Kd.R_slice HO362.out; subst eo44) | (go_at_call 21; (with_reducible refine (wayzgoosekit_EqMarks.calls k _ _ t336 _ _ y360 t363 _ ?side1 ?side2 ?side3 ?side4 A10.out).mono ?_); (case side1 => repeat (first | exact (Kd.R_reads' HO339.out).2.2 | (with_reducible refine Kd.C_alloc ?_ _) | (with_reducible refine Kd.C_drewN ?_ _) | (with_reducible refine Kd.C_drew ?_))); (case side2 => exact (Kd.R_reads' HO339.out).2.1); (case side3 => repeat (first | exact (Kd.R_reads' HO362.out).2.2 | (with_reducible refine Kd.C_alloc ?_ _) | (with_reducible refine Kd.C_drewN ?_ _) | (with_reducible refine Kd.C_drew ?_))); (case side4 => exact (Kd.R_reads' HO362.out).2.1); rintro e w' ⟨rfl, ⟨nd, rfl⟩⟩))
      go_ret
      exact ⟨by first | rfl | (simp [errW_none, errW_some] <;> rfl) | (simp [*, errW_none, errW_some] <;> rfl), by repeat (first | (with_reducible first | exact HB.out | apply below_alloc | apply pw_below_drewN | apply below_drew1 | refine below_set ?_ GE355.out) | exact HB.out)⟩
     ·replace c9 := Bool.eq_false_iff.mpr c9
      subst c9
      have H1 : (some false) = some r := by rw [if_neg (show ¬ (false = true) by decide)] at H; exact H
      clear H
      have H := H1
      clear H1
      obtain rfl := Option.some.inj H
      exact absurd hr (by decide)
    ·rw [if_neg c7] at H
     have c7b0 : (t352 == 2 && (t353 == 1)) = false := by simpa using c7
     (try (have c7b1 : decide (t352 = 2 && (t353 == 1)) = false := by simpa using c7))
     (try (have c7b2 : (t352 == 2 && (t353 == 1)) = false := by simpa using c7))
     (try (have c7b3 : ¬ (t352 = 2 && (t353 == 1)) := by simpa using c7))
     clear c7
     obtain rfl := Option.some.inj H
     exact absurd hr (by decide)
   ·rw [if_neg c6] at H
    have c6b0 : (t354 == 0) = false := beq_eq_false_iff_ne.mpr c6
    have c6b1 : (t354 != 0) = true := bne_iff_ne.mpr c6
    obtain rfl := Option.some.inj H
    exact absurd hr (by decide)
  ·rw [if_neg c5] at H
   have c5b0 : (t337 == 0) = false := beq_eq_false_iff_ne.mpr c5
   have c5b1 : (t337 != 0) = true := bne_iff_ne.mpr c5
   obtain rfl := Option.some.inj H
   exact absurd hr (by decide)
 ·rw [if_neg c4] at H
  have c4b0 : (t327 == 0) = false := beq_eq_false_iff_ne.mpr c4
  have c4b1 : (t327 != 0) = true := bne_iff_ne.mpr c4
  obtain rfl := Option.some.inj H
  exact absurd hr (by decide)
def proof_Cost.l0 : Nat → Int → List (S42) → Int → Int → Option (Int × Int)
 | 0, _, _, _, _ => none
 | k + 1, x7, x16, x17, x18 => if x18 < x17 then (if 0 ≤ x18 then (if x18 < (x16.length : Int) then (if ((rd_T42 x16 x18).f0) = 3 then (proof_Cost.l0 k x7 x16 x17 (wrap64 (x18 + 1))) else (proof_Cost.l0 k (wrap64 (x7 + 1)) x16 x17 (wrap64 (x18 + 1)))) else (none)) else (none)) else (some (x7, 0))
def proof_Cost.f (k : Nat) (l0 : List ByteArray) (l1 : List (S42)) : Option (Int × Int) := (proof_checked.f k l0 l1).bind fun t364 => (if t364 = 0 then (proof_Cost.l0 k 0 l1 (l1.length : Int) 0) else (some (0, t364)))
set_option maxHeartbeats 8000000 in
set_option maxRecDepth 100000 in
theorem proof_Cost.calls (k : Nat) (A0 : Option Addr) (c0 : Nat) (l0 : List ByteArray) (A1 : Option Addr) (c1 : Nat) (l1 : List (S42)) (r1 : Int) (r2 : Int) (w : World) (hr0 : Kd.C Kd.string w A0 l0.length l0) (hc0 : l0.length ≤ c0) (hr1 : Kd.C k42 w A1 l1.length l1) (hc1 : l1.length ≤ c1) (h : proof_Cost.f k l0 l1 = some (r1, r2)) (hl : l1.length ≤ 1) :
  Calls Tryz.prog 10 #[.slice A0 l0.length c0, .slice A1 l1.length c1] w fun e w' => e = .returned (.tuple #[.int .i64 r1, .int .i64 r2]) ∧ Below w.heap.size w w' := by
 have hu42 := Tryz.underlying42
 have HR0 := Aside0.mk hr0
 have HC0 := Aside0.mk hc0
 clear hr0 hc0
 have HR1 := Aside0.mk hr1
 have HC1 := Aside0.mk hc1
 clear hr1 hc1
 have HB := Aside0.mk (Below.refl w.heap.size w)
 have H : ((proof_checked.f k l0 l1).bind fun t364 => (if t364 = 0 then (proof_Cost.l0 k 0 l1 (l1.length : Int) 0) else (some (0, t364)))) = some (r1, r2) := h
 clear h
 replace H := Option.bind_eq_some_iff.mp H
 obtain ⟨t364, A30, H⟩ := H
 try dsimp only at H
 have A3 := Aside0.mk A30
 clear A30
 by_cases c4 : t364 = 0
 ·rw [if_pos c4] at H
  have c4b0 : (t364 == 0) = true := beq_iff_eq.mpr c4
  have c4b1 : (t364 != 0) = false := bne_eq_false_iff_eq.mpr c4
  clear c4
  have H' := Aside0.mk H
  clear H
  go_enter Tryz.func10, Tryz.ntmps10
  go_wp2_with (first | ((with_reducible refine gate_callee (f := 24) rfl ?_); refine goesL_ (some 12) rfl rfl Tryz.func24 (by kernel_rfl) rfl #[.slice A0 l0.length c0, .slice A1 l1.length c1] rfl (by (try simp only [List.map_toArray, List.map_cons, List.map_nil]); first | done | rfl | (simp only [List.length_drop, List.length_take]; rfl)) ?_; (with_reducible refine (proof_checked.calls k _ _ l0 _ _ l1 t364 _ ?side1 ?side2 ?side3 ?side4 A3.out hl).mono ?_); (case side1 => repeat (first | exact HR0.out | (with_reducible refine Kd.C_alloc ?_ _) | (with_reducible refine Kd.C_drewN ?_ _) | (with_reducible refine Kd.C_drew ?_))); (case side2 => exact HC0.out); (case side3 => repeat (first | exact HR1.out | (with_reducible refine Kd.C_alloc ?_ _) | (with_reducible refine Kd.C_drewN ?_ _) | (with_reducible refine Kd.C_drew ?_))); (case side4 => exact HC1.out); rintro e w5 ⟨rfl, hb⟩; refine ⟨_, rfl, ?_⟩; have n0_ := Aside0.mk (below_step (by repeat (first | (with_reducible first | exact HB.out | apply below_alloc | apply pw_below_drewN | apply below_drew1) | exact HB.out)) hb); clear HB; have HB := n0_; clear n0_; (try clear hb); (try clear hb2); (try clear hk); (try clear hi)))
  go_loopg [7, 18] k (fun kq v7 v18 w' => ∃ (x7_1 : Int) (x18_1 : Int), v7 = .int .i64 x7_1 ∧ v18 = .int .i64 x18_1 ∧ Aside0 (proof_Cost.l0 kq x7_1 l1 (l1.length : Int) x18_1 = some (r1, r2)) ∧ Aside0 (kq ≤ k) ∧ Aside0 (Below w.heap.size w w'))
  case atStart => exact ⟨(0), (0), (by first | rfl | (simp; done) | (simp [*]; done)), (by first | rfl | (simp; done) | (simp [*]; done)), H', ⟨Nat.le_refl _⟩, ⟨by repeat (first | (with_reducible first | exact HB.out | apply below_alloc | apply pw_below_drewN | apply below_drew1) | exact HB.out)⟩⟩
  case round =>
   clear H'
   try clear c1
   try clear c2
   try clear p2
   try clear c4
   try clear c4b0
   try clear c4b1
   obtain ⟨x7_1, x18_1, rfl, rfl, HA, HK1, HB⟩ := hrel
   cases gk with
   | zero => exact absurd HA.out (by simp [proof_Cost.l0])
   | succ k1 =>
    have H := HA.out
    clear HA
    simp only [proof_Cost.l0] at H
    by_cases c6 : x18_1 < (l1.length : Int)
    ·rw [if_pos c6] at H
     have c6b0 : decide (x18_1 < (l1.length : Int)) = true := decide_eq_true c6
     clear c6
     by_cases c7 : 0 ≤ x18_1
     ·rw [if_pos c7] at H
      have c7b0 : decide (0 ≤ x18_1) = true := decide_eq_true c7
      clear c7
      by_cases c8 : x18_1 < (l1.length : Int)
      ·rw [if_pos c8] at H
       have c8b0 : decide (x18_1 < (l1.length : Int)) = true := decide_eq_true c8
       clear c8
       by_cases c9 : ((rd_T42 l1 x18_1).f0) = 3
       ·rw [if_pos c9] at H
        have c9b0 : (((rd_T42 l1 x18_1).f0) == 3) = true := beq_iff_eq.mpr c9
        have c9b1 : (((rd_T42 l1 x18_1).f0) != 3) = false := bne_eq_false_iff_eq.mpr c9
        clear c9
        have H' := Aside0.mk H
        clear H
        have p365 : 0 ≤ (x18_1 : Int) := of_decide_eq_true (by first | (with_reducible assumption) | assumption)
        have q365 : x18_1 < (l1.length : Int) := of_decide_eq_true (by first | (with_reducible assumption) | assumption)
        obtain ⟨ad365, e365, hx365_0, hx365_1, hx365_2⟩ := at_T42 HR1.out x18_1 p365 q365
        cases e365
        replace hx365_0 := (HB.out.cell (World.block_lt_of_cell? w _ hx365_0)).trans hx365_0
        replace hx365_1 := (HB.out.cell (World.block_lt_of_cell? w _ hx365_1)).trans hx365_1
        replace hx365_2 := (HB.out.cell (World.block_lt_of_cell? w _ hx365_2)).trans hx365_2
        replace p365 := eq_true p365
        replace q365 := eq_true q365
        go_wp2_with (first | ((with_reducible refine gate_dst (N := 9) rfl ?_); refine box_event ?hg (N := 9) ?hd (cs := #[.int .i64 0, .int .i64 0, .string (⟨#[]⟩ : ByteArray)]) (t := 42) ?hr ?_; (case hd => rfl); (case hg => rfl); (case hr => first | (go_simp; done) | (go_simp; rfl)); intro gb366 hg w10 hbox hb; have n0_ := Aside0.mk (below_step (by repeat (first | (with_reducible first | exact HB.out | apply below_alloc | apply pw_below_drewN | apply below_drew1) | exact HB.out)) hb); have n1_ := Aside0.mk (hbox); have n2_ := Aside0.mk ((by rw [hg]; exact (below_size (by repeat (first | (with_reducible first | exact HB.out | apply below_alloc | apply pw_below_drewN | apply below_drew1) | exact HB.out))) : w.heap.size ≤ gb366)); have n3_ := n2_; clear HB; have HB := n0_; have BK366 := n1_; have GW366 := n2_; have GE366 := n3_; clear n0_ n1_ n2_ n3_; clear hb hbox hg; have hcz11_0 : w10.cell? ⟨gb366, 0, none⟩ = some (.int .i64 0) := (blk_cell BK366.out 0).trans rfl; have hcz11_1 : w10.cell? ⟨gb366, 1, none⟩ = some (.int .i64 0) := (blk_cell BK366.out 1).trans rfl; have hcz11_2 : w10.cell? ⟨gb366, 2, none⟩ = some (.string (⟨#[]⟩ : ByteArray)) := (blk_cell BK366.out 2).trans rfl; have hfz11_0 := blk_frozen BK366.out 0; have hfz11_1 := blk_frozen BK366.out 1; have hfz11_2 := blk_frozen BK366.out 2))
        go_roundg k1
        case measure => have := HK1.out; omega
        case rel => exact ⟨(x7_1), (wrap64 (x18_1 + 1)), (by first | rfl | (simp; done) | (simp [*]; done)), (by first | rfl | (simp; done) | (simp [*]; done)), H', ⟨by have := HK1.out; omega⟩, ⟨by repeat (first | (with_reducible first | exact HB.out | apply below_alloc | apply pw_below_drewN | apply below_drew1 | refine below_set ?_ GE366.out) | exact HB.out)⟩⟩
       ·rw [if_neg c9] at H
        have c9b0 : (((rd_T42 l1 x18_1).f0) == 3) = false := beq_eq_false_iff_ne.mpr c9
        have c9b1 : (((rd_T42 l1 x18_1).f0) != 3) = true := bne_iff_ne.mpr c9
        have H' := Aside0.mk H
        clear H
        have p365 : 0 ≤ (x18_1 : Int) := of_decide_eq_true (by first | (with_reducible assumption) | assumption)
        have q365 : x18_1 < (l1.length : Int) := of_decide_eq_true (by first | (with_reducible assumption) | assumption)
        obtain ⟨ad365, e365, hx365_0, hx365_1, hx365_2⟩ := at_T42 HR1.out x18_1 p365 q365
        cases e365
        replace hx365_0 := (HB.out.cell (World.block_lt_of_cell? w _ hx365_0)).trans hx365_0
        replace hx365_1 := (HB.out.cell (World.block_lt_of_cell? w _ hx365_1)).trans hx365_1
        replace hx365_2 := (HB.out.cell (World.block_lt_of_cell? w _ hx365_2)).trans hx365_2
        replace p365 := eq_true p365
        replace q365 := eq_true q365
        go_wp2_with (first | ((with_reducible refine gate_dst (N := 9) rfl ?_); refine box_event ?hg (N := 9) ?hd (cs := #[.int .i64 0, .int .i64 0, .string (⟨#[]⟩ : ByteArray)]) (t := 42) ?hr ?_; (case hd => rfl); (case hg => rfl); (case hr => first | (go_simp; done) | (go_simp; rfl)); intro gb366 hg w12 hbox hb; have n0_ := Aside0.mk (below_step (by repeat (first | (with_reducible first | exact HB.out | apply below_alloc | apply pw_below_drewN | apply below_drew1) | exact HB.out)) hb); have n1_ := Aside0.mk (hbox); have n2_ := Aside0.mk ((by rw [hg]; exact (below_size (by repeat (first | (with_reducible first | exact HB.out | apply below_alloc | apply pw_below_drewN | apply below_drew1) | exact HB.out))) : w.heap.size ≤ gb366)); have n3_ := n2_; clear HB; have HB := n0_; have BK366 := n1_; have GW366 := n2_; have GE366 := n3_; clear n0_ n1_ n2_ n3_; clear hb hbox hg; have hcz13_0 : w12.cell? ⟨gb366, 0, none⟩ = some (.int .i64 0) := (blk_cell BK366.out 0).trans rfl; have hcz13_1 : w12.cell? ⟨gb366, 1, none⟩ = some (.int .i64 0) := (blk_cell BK366.out 1).trans rfl; have hcz13_2 : w12.cell? ⟨gb366, 2, none⟩ = some (.string (⟨#[]⟩ : ByteArray)) := (blk_cell BK366.out 2).trans rfl; have hfz13_0 := blk_frozen BK366.out 0; have hfz13_1 := blk_frozen BK366.out 1; have hfz13_2 := blk_frozen BK366.out 2))
        go_roundg k1
        case measure => have := HK1.out; omega
        case rel => exact ⟨(wrap64 (x7_1 + 1)), (wrap64 (x18_1 + 1)), (by first | rfl | (simp; done) | (simp [*]; done)), (by first | rfl | (simp; done) | (simp [*]; done)), H', ⟨by have := HK1.out; omega⟩, ⟨by repeat (first | (with_reducible first | exact HB.out | apply below_alloc | apply pw_below_drewN | apply below_drew1 | refine below_set ?_ GE366.out) | exact HB.out)⟩⟩
      ·rw [if_neg c8] at H
       exact absurd H (by simp)
     ·rw [if_neg c7] at H
      exact absurd H (by simp)
    ·rw [if_neg c6] at H
     have c6b0 : decide (x18_1 < (l1.length : Int)) = false := decide_eq_false c6
     clear c6
     simp only [Option.some.injEq, Prod.mk.injEq] at H
     obtain ⟨rfl, rfl⟩ := H
     go_wp2
     go_ret2
     exact ⟨by first | rfl | (simp [errW_none, errW_some] <;> rfl) | (simp [*, errW_none, errW_some] <;> rfl), by repeat (first | (with_reducible first | exact HB.out | apply below_alloc | apply pw_below_drewN | apply below_drew1) | exact HB.out)⟩
 ·rw [if_neg c4] at H
  have c4b0 : (t364 == 0) = false := beq_eq_false_iff_ne.mpr c4
  have c4b1 : (t364 != 0) = true := bne_iff_ne.mpr c4
  simp only [Option.some.injEq, Prod.mk.injEq] at H
  obtain ⟨rfl, rfl⟩ := H
  go_enter Tryz.func10, Tryz.ntmps10
  go_wp2_with (first | ((with_reducible refine gate_callee (f := 24) rfl ?_); refine goesL_ (some 12) rfl rfl Tryz.func24 (by kernel_rfl) rfl #[.slice A0 l0.length c0, .slice A1 l1.length c1] rfl (by (try simp only [List.map_toArray, List.map_cons, List.map_nil]); first | done | rfl | (simp only [List.length_drop, List.length_take]; rfl)) ?_; (with_reducible refine (proof_checked.calls k _ _ l0 _ _ l1 t364 _ ?side1 ?side2 ?side3 ?side4 A3.out hl).mono ?_); (case side1 => repeat (first | exact HR0.out | (with_reducible refine Kd.C_alloc ?_ _) | (with_reducible refine Kd.C_drewN ?_ _) | (with_reducible refine Kd.C_drew ?_))); (case side2 => exact HC0.out); (case side3 => repeat (first | exact HR1.out | (with_reducible refine Kd.C_alloc ?_ _) | (with_reducible refine Kd.C_drewN ?_ _) | (with_reducible refine Kd.C_drew ?_))); (case side4 => exact HC1.out); rintro e w14 ⟨rfl, hb⟩; refine ⟨_, rfl, ?_⟩; have n0_ := Aside0.mk (below_step (by repeat (first | (with_reducible first | exact HB.out | apply below_alloc | apply pw_below_drewN | apply below_drew1) | exact HB.out)) hb); clear HB; have HB := n0_; clear n0_; (try clear hb); (try clear hb2); (try clear hk); (try clear hi)))
  go_ret2
  exact ⟨by first | rfl | (simp [errW_none, errW_some] <;> rfl) | (simp [*, errW_none, errW_some] <;> rfl), by repeat (first | (with_reducible first | exact HB.out | apply below_alloc | apply pw_below_drewN | apply below_drew1) | exact HB.out)⟩
def proof_asked.f (k : Nat) (l0 : List (List ByteArray)) (l1 : List ByteArray) : Option (Int) := (proof_yearsError.f k l0).bind fun t367 => (if t367 = 0 then ((proof_Check.f k l1).bind fun t368 => (some t368)) else (some t367))
set_option maxHeartbeats 8000000 in
set_option maxRecDepth 100000 in
theorem proof_asked.calls (k : Nat) (A0 : Option Addr) (c0 : Nat) (l0 : List (List ByteArray)) (A1 : Option Addr) (c1 : Nat) (l1 : List ByteArray) (r : Int) (w : World) (hr0 : Kd.C (Kd.slice 9 Kd.string) w A0 l0.length l0) (hc0 : l0.length ≤ c0) (hr1 : Kd.C Kd.string w A1 l1.length l1) (hc1 : l1.length ≤ c1) (h : proof_asked.f k l0 l1 = some r) :
  Calls Tryz.prog 25 #[.slice A0 l0.length c0, .slice A1 l1.length c1] w fun e w' => e = .returned (.int .i64 r) ∧ Below w.heap.size w w' := by
 have HR0 := Aside0.mk hr0
 have HC0 := Aside0.mk hc0
 clear hr0 hc0
 have HR1 := Aside0.mk hr1
 have HC1 := Aside0.mk hc1
 clear hr1 hc1
 have HB := Aside0.mk (Below.refl w.heap.size w)
 have H : ((proof_yearsError.f k l0).bind fun t367 => (if t367 = 0 then ((proof_Check.f k l1).bind fun t368 => (some t368)) else (some t367))) = some r := h
 clear h
 replace H := Option.bind_eq_some_iff.mp H
 obtain ⟨t367, A30, H⟩ := H
 try dsimp only at H
 have A3 := Aside0.mk A30
 clear A30
 by_cases c4 : t367 = 0
 ·rw [if_pos c4] at H
  have c4b0 : (t367 == 0) = true := beq_iff_eq.mpr c4
  have c4b1 : (t367 != 0) = false := bne_eq_false_iff_eq.mpr c4
  clear c4
  replace H := Option.bind_eq_some_iff.mp H
  obtain ⟨t368, A50, H⟩ := H
  try dsimp only at H
  have A5 := Aside0.mk A50
  clear A50
  obtain rfl := Option.some.inj H
  go_enter Tryz.func25, Tryz.ntmps25
  go_wp2_with (first | ((with_reducible refine gate_callee (f := 33) rfl ?_); refine goesL_ (some 7) rfl rfl Tryz.func33 (by kernel_rfl) rfl #[.slice A0 l0.length c0] rfl (by (try simp only [List.map_toArray, List.map_cons, List.map_nil]); first | done | rfl | (simp only [List.length_drop, List.length_take]; rfl)) ?_; (with_reducible refine (proof_yearsError.calls k _ _ l0 t367 _ ?side1 ?side2 A3.out).mono ?_); (case side1 => repeat (first | exact HR0.out | (with_reducible refine Kd.C_alloc ?_ _) | (with_reducible refine Kd.C_drewN ?_ _) | (with_reducible refine Kd.C_drew ?_))); (case side2 => exact HC0.out); rintro e w6 ⟨rfl, hb⟩; refine ⟨_, rfl, ?_⟩; have n0_ := Aside0.mk (below_step (by repeat (first | (with_reducible first | exact HB.out | apply below_alloc | apply pw_below_drewN | apply below_drew1) | exact HB.out)) hb); clear HB; have HB := n0_; clear n0_; (try clear hb); (try clear hb2); (try clear hk); (try clear hi)) | ((with_reducible refine gate_callee (f := 22) rfl ?_); refine goesL_ (some 12) rfl rfl Tryz.func22 (by kernel_rfl) rfl #[.slice A1 l1.length c1] rfl (by (try simp only [List.map_toArray, List.map_cons, List.map_nil]); first | done | rfl | (simp only [List.length_drop, List.length_take]; rfl)) ?_; (with_reducible refine (proof_Check.calls k _ _ l1 t368 _ ?side1 ?side2 A5.out).mono ?_); (case side1 => repeat (first | exact (Kd.C_below HR1.out HB.out) | (with_reducible refine Kd.C_alloc ?_ _) | (with_reducible refine Kd.C_drewN ?_ _) | (with_reducible refine Kd.C_drew ?_))); (case side2 => exact HC1.out); rintro e w7 ⟨rfl, hb⟩; refine ⟨_, rfl, ?_⟩; have n0_ := Aside0.mk (below_step (by repeat (first | (with_reducible first | exact HB.out | apply below_alloc | apply pw_below_drewN | apply below_drew1) | exact HB.out)) hb); clear HB; have HB := n0_; clear n0_; (try clear hb); (try clear hb2); (try clear hk); (try clear hi)))
  go_ret
  exact ⟨by first | rfl | (simp [errW_none, errW_some] <;> rfl) | (simp [*, errW_none, errW_some] <;> rfl), by repeat (first | (with_reducible first | exact HB.out | apply below_alloc | apply pw_below_drewN | apply below_drew1) | exact HB.out)⟩
 ·rw [if_neg c4] at H
  have c4b0 : (t367 == 0) = false := beq_eq_false_iff_ne.mpr c4
  have c4b1 : (t367 != 0) = true := bne_iff_ne.mpr c4
  obtain rfl := Option.some.inj H
  go_enter Tryz.func25, Tryz.ntmps25
  go_wp2_with (first | ((with_reducible refine gate_callee (f := 33) rfl ?_); refine goesL_ (some 7) rfl rfl Tryz.func33 (by kernel_rfl) rfl #[.slice A0 l0.length c0] rfl (by (try simp only [List.map_toArray, List.map_cons, List.map_nil]); first | done | rfl | (simp only [List.length_drop, List.length_take]; rfl)) ?_; (with_reducible refine (proof_yearsError.calls k _ _ l0 t367 _ ?side1 ?side2 A3.out).mono ?_); (case side1 => repeat (first | exact HR0.out | (with_reducible refine Kd.C_alloc ?_ _) | (with_reducible refine Kd.C_drewN ?_ _) | (with_reducible refine Kd.C_drew ?_))); (case side2 => exact HC0.out); rintro e w8 ⟨rfl, hb⟩; refine ⟨_, rfl, ?_⟩; have n0_ := Aside0.mk (below_step (by repeat (first | (with_reducible first | exact HB.out | apply below_alloc | apply pw_below_drewN | apply below_drew1) | exact HB.out)) hb); clear HB; have HB := n0_; clear n0_; (try clear hb); (try clear hb2); (try clear hk); (try clear hi)))
  go_ret
  exact ⟨by first | rfl | (simp [errW_none, errW_some] <;> rfl) | (simp [*, errW_none, errW_some] <;> rfl), by repeat (first | (with_reducible first | exact HB.out | apply below_alloc | apply pw_below_drewN | apply below_drew1) | exact HB.out)⟩
end Go.Proofs.YteoknahabkoknaaGreatDoor.P
namespace Go.Proofs.YteoknahabkoknaaGreatDoor.P
open Go.RowKit Go.Proofs.YteoknahabkoknaaGreatDoorW.PrintWords Go.Proofs.YteoknahabkoknaaGreatDoorW.PrintLast
/- The examples of the chapters, reckoned. -/
set_option maxRecDepth 100000 in
theorem awake_true : wayzgoosetop_correctedAwake.f 60 = some true := by kernel_rfl
end Go.Proofs.YteoknahabkoknaaGreatDoor.P
namespace Go.Proofs.YteoknahabkoknaaGreatDoor.P
open Go.RowKit Go.Proofs.YteoknahabkoknaaGreatDoorW.PrintWords Go.Proofs.YteoknahabkoknaaGreatDoorW.PrintLast
set_option linter.unusedVariables false
set_option linter.unusedSimpArgs false
/- What the best list of marks is: it makes the page, and no list of marks that makes it has a lower cost, nor fewer marks at the same cost. -/
def sg (a b : Int) : Int := if a < b then -1 else if b < a then 1 else 0
theorem sg_lt {a b : Int} (h : a < b) : sg a b = -1 := by unfold sg; rw [if_pos h]
theorem sg_gt {a b : Int} (h : b < a) : sg a b = 1 := by unfold sg; rw [if_neg (by omega), if_pos h]
theorem sg_eq (a : Int) : sg a a = 0 := by unfold sg; rw [if_neg (by omega), if_neg (by omega)]
theorem cmpI_eq (a b : Int) : cmp_Compare_int.f a b = some (sg a b) := by
 unfold cmp_Compare_int.f cmp_isNaN_int.f sg
 simp only [bne_self_eq_false, Option.bind_some, Bool.false_eq_true, if_false, gt_iff_lt]
 split
 ·rfl
 ·split <;> rfl
theorem or3 (k : Nat) (a b c : Int) : cmp_Or_int.f (k + 4) [a, b, c] = some (if a = 0 then (if b = 0 then c else b) else a) := by
 show cmp_Or_int.l0 (k + 4) 0 [a, b, c] 3 0 = _
 rw [cmp_Or_int.l0, if_pos (by omega), if_pos (by omega), if_pos (by simp), show rd [a, b, c] 0 = a from rfl, show wrap64 (0 + 1) = 1 by kernel_rfl]
 by_cases ha : a = 0
 ·rw [if_pos ha, if_pos ha, cmp_Or_int.l0, if_pos (by omega), if_pos (by omega), if_pos (by simp), show rd [a, b, c] 1 = b from rfl, show wrap64 (1 + 1) = 2 by kernel_rfl]
  by_cases hb : b = 0
  ·rw [if_pos hb, if_pos hb, cmp_Or_int.l0, if_pos (by omega), if_pos (by omega), if_pos (by simp), show rd [a, b, c] 2 = c from rfl, show wrap64 (2 + 1) = 3 by kernel_rfl]
   by_cases hc : c = 0
   ·rw [if_pos hc, cmp_Or_int.l0, if_neg (by omega), hc]
   ·rw [if_neg hc]
  ·rw [if_neg hb, if_neg hb]
 ·rw [if_neg ha, if_neg ha]
theorem or2 (k : Nat) (a b : Int) : cmp_Or_int.f (k + 3) [a, b] = some (if a = 0 then b else a) := by
 show cmp_Or_int.l0 (k + 3) 0 [a, b] 2 0 = _
 rw [cmp_Or_int.l0, if_pos (by omega), if_pos (by omega), if_pos (by simp), show rd [a, b] 0 = a from rfl, show wrap64 (0 + 1) = 1 by kernel_rfl]
 by_cases ha : a = 0
 ·rw [if_pos ha, if_pos ha, cmp_Or_int.l0, if_pos (by omega), if_pos (by omega), if_pos (by simp), show rd [a, b] 1 = b from rfl, show wrap64 (1 + 1) = 2 by kernel_rfl]
  by_cases hb : b = 0
  ·rw [if_pos hb, cmp_Or_int.l0, if_neg (by omega), hb]
  ·rw [if_neg hb]
 ·rw [if_neg ha, if_neg ha]
theorem marks_some (k : Nat) (a b : Int) (c : ByteArray) (d e : Int) (f : ByteArray) : ∃ t, proof_compareMarks.f (k + 4) a b c d e f = some t := by
 unfold proof_compareMarks.f cmp_Compare_string.f
 simp only [cmpI_eq, Option.bind_some, or3]
 exact ⟨_, rfl⟩
theorem api_some (l0 l1 : List S42) (hl : l0.length ≤ 1000) : ∀ (m k : Nat) (i : Int), 0 ≤ i → (l0.length : Int) - i = m → m + 5 ≤ k → ∃ t, api_Mark.l0 k l0 l1 l0 (l0.length : Int) i = some t := by
 intro m
 induction m with
 | zero =>
  intro k i h0 hm hk
  obtain ⟨k, rfl⟩ : ∃ q, k = q + 1 := ⟨k - 1, by omega⟩
  rw [api_Mark.l0, if_neg (by omega)]
  split <;> exact ⟨_, rfl⟩
 | succ m ih =>
  intro k i h0 hm hk
  obtain ⟨k, rfl⟩ : ∃ q, k = q + 1 := ⟨k - 1, by omega⟩
  rw [api_Mark.l0, if_pos (by omega), if_pos h0, if_pos (by omega)]
  by_cases h1 : i ≥ (l1.length : Int)
  ·rw [if_pos h1]
   exact ⟨_, rfl⟩
  ·rw [if_neg h1, if_pos (by omega)]
   obtain ⟨k, rfl⟩ : ∃ q, k = q + 4 := ⟨k - 4, by omega⟩
   obtain ⟨t, ht⟩ := marks_some k (rd_T42 l0 i).f0 (rd_T42 l0 i).f1 (rd_T42 l0 i).f2 (rd_T42 l1 i).f0 (rd_T42 l1 i).f1 (rd_T42 l1 i).f2
   rw [ht]
   simp only [Option.bind_some]
   by_cases ht0 : t = 0
   ·rw [if_pos ht0, show wrap64 (i + 1) = i + 1 by unfold wrap64; omega]
    exact ih _ _ (by omega) (by omega) (by omega)
   ·rw [if_neg ht0]
    exact ⟨_, rfl⟩
/-- By cost, then by number. -/
def Lex (a b : LM) : Prop := a.1 < b.1 ∨ (a.1 = b.1 ∧ a.2.length ≤ b.2.length)
theorem Lex.refl (a : LM) : Lex a a := .inr ⟨rfl, Nat.le_refl _⟩
theorem Lex.trans {a b c : LM} (h : Lex a b) (k : Lex b c) : Lex a c := by
 unfold Lex at *
 omega
theorem cmpL_some (a b : LM) (ha : a.2.length ≤ 30) : ∃ c, cmpL a b = some c ∧ (c < 0 → Lex a b) ∧ (¬ c < 0 → Lex b a) := by
 unfold cmpL proof_compareLists.f api_Mark.f
 obtain ⟨t, ht⟩ := api_some a.2 b.2 (by omega) a.2.length 40 0 (by omega) (by omega) (by omega)
 rw [cmpI_eq, cmpI_eq, ht]
 simp only [Option.bind_some]
 rw [show (40 : Nat) = 36 + 4 from rfl, or3]
 refine ⟨_, rfl, ?_⟩
 unfold Lex
 rcases Int.lt_trichotomy a.1 b.1 with h | h | h
 ·rw [sg_lt h, if_neg (by omega)]
  omega
 ·rw [h, sg_eq, if_pos rfl]
  rcases Int.lt_trichotomy (a.2.length : Int) (b.2.length : Int) with h2 | h2 | h2
  ·rw [sg_lt h2, if_neg (by omega)]
   omega
  ·rw [h2, sg_eq, if_pos rfl]
   omega
  ·rw [sg_gt h2, if_neg (by omega)]
   omega
 ·rw [sg_gt h, if_neg (by omega)]
  omega
theorem least_some : ∀ (xs : List LM) (a : LM), (∀ y ∈ a :: xs, y.2.length ≤ 30) → ∃ r, leastL a xs = some r ∧ r ∈ a :: xs ∧ ∀ y ∈ a :: xs, Lex r y
 | [], a, _ => ⟨a, rfl, by simp, fun y hy => by rw [List.mem_singleton.1 hy]; exact Lex.refl a⟩
 | x :: xs, a, h => by
  obtain ⟨c, hc, h1, h2⟩ := cmpL_some x a (h x (by simp))
  unfold leastL
  rw [hc]
  simp only [Option.bind_some]
  by_cases h0 : c < 0
  ·rw [if_pos h0]
   obtain ⟨r, hr, hm, hl⟩ := least_some xs x (fun y hy => h y (by simp at hy ⊢; exact .inr hy))
   refine ⟨r, hr, by simp at hm ⊢; exact .inr hm, fun y hy => ?_⟩
   rcases List.mem_cons.1 hy with rfl | hy
   ·exact (hl x (by simp)).trans (h1 h0)
   ·exact hl y hy
  ·rw [if_neg h0]
   obtain ⟨r, hr, hm, hl⟩ := least_some xs a (fun y hy => h y (by simp at hy ⊢; rcases hy with hy | hy; exact .inl hy; exact .inr (.inr hy)))
   refine ⟨r, hr, by simp at hm ⊢; rcases hm with hm | hm; exact .inl hm; exact .inr (.inr hm), fun y hy => ?_⟩
   rcases List.mem_cons.1 hy with rfl | hy
   ·exact hl _ (by simp)
   ·rcases List.mem_cons.1 hy with rfl | hy
    ·exact (hl a (by simp)).trans (h2 h0)
    ·exact hl y (by simp [hy])
/-- How many lines a list of marks sets. -/
def costM : List S42 → Int
 | [] => 0
 | m :: ms => (if m.f0 = 3 then 0 else 1) + costM ms
theorem costM_bound (ms : List S42) : 0 ≤ costM ms ∧ costM ms ≤ ms.length := by
 induction ms with
 | nil => simp [costM]
 | cons m ms ih =>
  simp only [costM, List.length_cons]
  split <;> omega
theorem behind_eq (l : LM) (m : S42) (h0 : 0 ≤ l.1) (h1 : l.1 ≤ 1000) (h2 : l.2.length ≤ 1000) : behindO l m = some (l.1 + (if m.f0 = 3 then 0 else 1), m :: l.2) := by
 unfold behindO proof_list_behind.f
 simp only [Option.bind_some]
 rw [if_pos (by simp; omega)]
 by_cases h : m.f0 = 3
 ·rw [if_pos h, if_pos h]
  simp
 ·rw [if_neg h, if_neg h, show wrap64 (l.1 + 1) = l.1 + 1 by unfold wrap64; omega]
  rfl
/-- Which lists of marks make a page, from a line on. -/
inductive Scr : List ByteArray → Int → List ByteArray → List S42 → Prop
 | nil (a : Int) : Scr [] a [] []
 | put {o : List ByteArray} {a : Int} {p : ByteArray} {ps : List ByteArray} {ms : List S42} (h : Scr o a ps ms) : Scr o a (p :: ps) (⟨1, a, p⟩ :: ms)
 | out {o : ByteArray} {os : List ByteArray} {a : Int} {ps : List ByteArray} {ms : List S42} (h : Scr os (a + 1) ps ms) : Scr (o :: os) a ps (⟨3, a, ⟨#[]⟩⟩ :: ms)
 | set {o : ByteArray} {os : List ByteArray} {a : Int} {p : ByteArray} {ps : List ByteArray} {ms : List S42} (h : Scr os (a + 1) ps ms) : Scr (o :: os) a (p :: ps) (⟨2, a, p⟩ :: ms)
 | keep {o : ByteArray} {os : List ByteArray} {a : Int} {ps : List ByteArray} {ms : List S42} (h : Scr os (a + 1) ps ms) : Scr (o :: os) a (o :: ps) ms
/-- What is said of a best list. -/
def Best (o : List ByteArray) (a : Int) (p : List ByteArray) (x : Option LM) : Prop :=
 ∃ r : LM, x = some r ∧ Scr o a p r.2 ∧ r.1 = costM r.2 ∧ r.2.length ≤ o.length + p.length ∧ ∀ ms, Scr o a p ms → Lex r (costM ms, ms)
theorem toList_inj {a b : ByteArray} (h : a.toList = b.toList) : a = b := by
 rw [Go.ByteArray.toList_eq, Go.ByteArray.toList_eq] at h
 exact ByteArray.ext (Array.ext' h)
theorem endB_best (a : Int) : ∀ p : List ByteArray, p.length ≤ 20 → Best [] a p (endB a p)
 | [], _ => ⟨(0, []), rfl, .nil a, rfl, by simp, fun ms h => by cases h; exact Lex.refl _⟩
 | p :: ps, hl => by
  obtain ⟨r, hr, hs, hc, hn, hb⟩ := endB_best a ps (by simp at hl; omega)
  have hcb := costM_bound r.2
  simp at hl hn
  refine ⟨(r.1 + 1, ⟨1, a, p⟩ :: r.2), ?_, .put hs, ?_, ?_, ?_⟩
  ·unfold endB
   rw [hr]
   simp only [Option.bind_some]
   rw [behind_eq _ _ (by omega) (by omega) (by omega)]
   rfl
  ·simp only [costM, hc]
   simp
   omega
  ·simp
   omega
  ·intro ms h
   cases h with
   | put h =>
    have := hb _ h
    unfold Lex at this ⊢
    simp only [costM, List.length_cons] at this ⊢
    simp
    omega
theorem rowB_best (o : ByteArray) (os : List ByteArray) (a : Int) (prev : List ByteArray → Option LM) (hprev : ∀ p, os.length + p.length ≤ 20 → Best os (a + 1) p (prev p)) : ∀ p : List ByteArray, os.length + 1 + p.length ≤ 20 → Best (o :: os) a p (rowB o prev a p)
 | [], hl => by
  obtain ⟨r, hr, hs, hc, hn, hb⟩ := hprev [] (by simp at hl ⊢; omega)
  have hcb := costM_bound r.2
  simp at hl hn
  refine ⟨(r.1, ⟨3, a, ⟨#[]⟩⟩ :: r.2), ?_, .out hs, ?_, ?_, ?_⟩
  ·unfold rowB
   rw [hr]
   simp only [Option.bind_some]
   rw [behind_eq _ _ (by omega) (by omega) (by omega)]
   simp
  ·simp only [costM, hc]
   simp
  ·simp
   omega
  ·intro ms h
   cases h with
   | out h =>
    have := hb _ h
    unfold Lex at this ⊢
    simp only [costM, List.length_cons] at this ⊢
    simp
    omega
 | p :: ps, hl => by
  simp at hl
  obtain ⟨r1, hr1, hs1, hc1, hn1, hb1⟩ := rowB_best o os a prev hprev ps (by omega)
  obtain ⟨r2, hr2, hs2, hc2, hn2, hb2⟩ := hprev (p :: ps) (by simp; omega)
  obtain ⟨r3, hr3, hs3, hc3, hn3, hb3⟩ := hprev ps (by omega)
  have hcb1 := costM_bound r1.2
  have hcb2 := costM_bound r2.2
  have hcb3 := costM_bound r3.2
  simp at hn1 hn2 hn3
  have key : ∀ L : List LM, (∀ y ∈ L, y = r3 ∧ o = p) → (o = p → L = [r3]) → Best (o :: os) a (p :: ps) (leastL (r1.1 + 1, ⟨1, a, p⟩ :: r1.2) ([(r2.1, ⟨3, a, ⟨#[]⟩⟩ :: r2.2), (r3.1 + 1, ⟨2, a, p⟩ :: r3.2)] ++ L)) := by
   intro L hL hL2
   obtain ⟨r, hr, hm, hle⟩ := least_some ([(r2.1, ⟨3, a, ⟨#[]⟩⟩ :: r2.2), (r3.1 + 1, ⟨2, a, p⟩ :: r3.2)] ++ L) (r1.1 + 1, ⟨1, a, p⟩ :: r1.2) (by
    intro y hy
    simp at hy
    rcases hy with rfl | rfl | rfl | hy
    ·simp; omega
    ·simp; omega
    ·simp; omega
    ·rw [(hL y hy).1]; omega)
   have hgood : Scr (o :: os) a (p :: ps) r.2 ∧ r.1 = costM r.2 ∧ r.2.length ≤ os.length + 1 + (ps.length + 1) := by
    simp at hm
    rcases hm with rfl | rfl | rfl | hm
    ·exact ⟨.put hs1, by simp only [costM, hc1]; simp; omega, by simp; omega⟩
    ·exact ⟨.out hs2, by simp only [costM, hc2]; simp, by simp; omega⟩
    ·exact ⟨.set hs3, by simp only [costM, hc3]; simp; omega, by simp; omega⟩
    ·obtain ⟨rfl, rfl⟩ := hL r hm
     exact ⟨.keep hs3, hc3, by omega⟩
   refine ⟨r, hr, hgood.1, hgood.2.1, by simpa using hgood.2.2, fun ms h => ?_⟩
   cases h with
   | put h =>
    refine (hle (r1.1 + 1, ⟨1, a, p⟩ :: r1.2) (by simp)).trans ?_
    have := hb1 _ h
    unfold Lex at this ⊢
    simp only [costM, List.length_cons] at this ⊢
    simp
    omega
   | out h =>
    refine (hle (r2.1, ⟨3, a, ⟨#[]⟩⟩ :: r2.2) (by simp)).trans ?_
    have := hb2 _ h
    unfold Lex at this ⊢
    simp only [costM, List.length_cons] at this ⊢
    simp
    omega
   | set h =>
    refine (hle (r3.1 + 1, ⟨2, a, p⟩ :: r3.2) (by simp)).trans ?_
    have := hb3 _ h
    unfold Lex at this ⊢
    simp only [costM, List.length_cons] at this ⊢
    simp
    omega
   | keep h =>
    refine (hle r3 (by rw [hL2 rfl]; simp)).trans ?_
    exact hb3 _ h
  unfold rowB
  rw [hr1]
  simp only [Option.bind_some]
  rw [behind_eq _ _ (by omega) (by omega) (by omega)]
  simp only [Option.bind_some]
  rw [hr2]
  simp only [Option.bind_some]
  rw [behind_eq _ _ (by omega) (by omega) (by omega)]
  simp only [Option.bind_some]
  rw [hr3]
  simp only [Option.bind_some]
  rw [behind_eq _ _ (by omega) (by omega) (by omega)]
  simp only [Option.bind_some]
  by_cases he : o.toList = p.toList
  ·rw [if_pos he]
   simpa using key [r3] (fun y hy => ⟨by simpa using hy, toList_inj he⟩) (fun _ => rfl)
  ·rw [if_neg he]
   simpa using key [] (fun y hy => by simp at hy) (fun h => absurd (by rw [h]) he)
theorem bestL_best : ∀ (o : List ByteArray) (a : Int) (p : List ByteArray), o.length + p.length ≤ 20 → Best o a p (bestL o a p)
 | [], a, p, h => endB_best a p (by simpa using h)
 | o :: os, a, p, h => rowB_best o os a (bestL os (a + 1)) (fun p hp => bestL_best os (a + 1) p hp) p (by simp at h; omega)
end Go.Proofs.YteoknahabkoknaaGreatDoor.P
