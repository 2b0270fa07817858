/- Parts of the proof of topCorrected_card: the texts P11, MPlA, MFresh, MPlC, MPlD, MRaw, MRange of the session's own drivers and templates, laid together by a program of the session's own; what the theorem does not come to is left out. -/
import Derived.BigRegion
import Derived.Carry
import Derived.Deep.RegionHeld3
import Derived.Laws.Strings
import Derived.LoopIn
import Derived.LoopNIn
import Derived.Maps.OwnOps
import Derived.Maps.OwnSet
import Derived.Maps.RangeWalk
import Derived.Outline
import Derived.OwnWalkIn
import Derived.RangeFuncBound
import Derived.RangeFuncCalls
import Derived.RangeFuncLeaves
import Derived.RangeFuncNested
import Derived.RegionTactic
import Derived.Shelf.Abstract
import Derived.Shelf.RegionOpen
import Derived.StillTailTactics
import Derived.TacticsInMore
import Derived.Test.YteoknahabkoknaaGreatDoorY1
import Derived.Test.YteoknahabkoknaaGreatDoorY2
import Derived.Test.YteoknahabkoknaaGreatDoorY4
import Derived.Test.YteoknahabkoknaaGreatDoorY5
import Derived.Test.YteoknahabkoknaaGreatDoorY6
import Derived.Test.YteoknahabkoknaaGreatDoorY7
import Derived.WalkKit
namespace Go.Proofs.YteoknahabkoknaaGreatDoor.P
open Go.RowKit Go.Proofs.YteoknahabkoknaaGreatDoorW.PrintWords Go.Proofs.YteoknahabkoknaaGreatDoorW.PrintLast Go.Proofs.YteoknahabkoknaaGreatDoorW.PrintMore
attribute [local go_sem] max2_int min2_int max_two min_two max_three min_three max_four min_four   -- for this text's walks alone
set_option linter.unusedVariables false
set_option linter.unusedSimpArgs false
def name_Key.f (a0 : ByteArray) : Option (ByteArray × Int) := (name_Check.f a0).bind fun t257 => (if t257 = 0 then ((name_of.f a0).bind fun t258 => (some (t258, 0))) else (some ((⟨#[]⟩ : ByteArray), t257)))
set_option maxHeartbeats 8000000 in
set_option maxRecDepth 100000 in
theorem name_Key.calls (a0 : ByteArray) (r1 : ByteArray) (r2 : Int) (w : World) (h : name_Key.f a0 = some (r1, r2)) :
  Calls Tryz.prog 19 #[.string a0] w fun e w' => e = .returned (.tuple #[.string r1, .int .i64 r2]) ∧ Below w.heap.size w w' := by
 have HB := Aside0.mk (Below.refl w.heap.size w)
 have H : ((name_Check.f a0).bind fun t257 => (if t257 = 0 then ((name_of.f a0).bind fun t258 => (some (t258, 0))) else (some ((⟨#[]⟩ : ByteArray), t257)))) = some (r1, r2) := h
 clear h
 replace H := Option.bind_eq_some_iff.mp H
 obtain ⟨t257, A20, H⟩ := H
 try dsimp only at H
 have A2 := Aside0.mk A20
 clear A20
 by_cases c3 : t257 = 0
 ·rw [if_pos c3] at H
  have c3b0 : (t257 == 0) = true := beq_iff_eq.mpr c3
  have c3b1 : (t257 != 0) = false := bne_eq_false_iff_eq.mpr c3
  clear c3
  replace H := Option.bind_eq_some_iff.mp H
  obtain ⟨t258, A40, H⟩ := H
  try dsimp only at H
  have A4 := Aside0.mk A40
  clear A40
  simp only [Option.some.injEq, Prod.mk.injEq] at H
  obtain ⟨rfl, rfl⟩ := H
  go_enter Tryz.func19, Tryz.ntmps19
  go_wp2_with (first | ((with_reducible refine gate_callee (f := 40) rfl ?_); refine goesL_ (some 6) rfl rfl Tryz.func40 (by kernel_rfl) rfl #[.string a0] rfl (by (try simp only [List.map_toArray, List.map_cons, List.map_nil]); first | done | rfl | (simp only [List.length_drop, List.length_take]; rfl)) ?_; (with_reducible refine (name_Check.calls a0 t257 _ A2.out).mono ?_); rintro e w5 ⟨rfl, hb⟩; refine ⟨_, rfl, ?_⟩; have n0_ := Aside0.mk (below_step (by repeat (first | (with_reducible first | exact HB.out | apply below_alloc | apply pw_below_drewN | apply below_drew1) | exact HB.out)) hb); clear HB; have HB := n0_; clear n0_; (try clear hb); (try clear hb2); (try clear hk); (try clear hi)) | ((with_reducible refine gate_callee (f := 41) rfl ?_); refine goesL_ (some 11) rfl rfl Tryz.func41 (by kernel_rfl) rfl #[.string a0] rfl (by (try simp only [List.map_toArray, List.map_cons, List.map_nil]); first | done | rfl | (simp only [List.length_drop, List.length_take]; rfl)) ?_; (with_reducible refine (name_of.calls a0 t258 _ A4.out).mono ?_); rintro e w6 ⟨rfl, hb⟩; refine ⟨_, rfl, ?_⟩; have n0_ := Aside0.mk (below_step (by repeat (first | (with_reducible first | exact HB.out | apply below_alloc | apply pw_below_drewN | apply below_drew1) | exact HB.out)) hb); clear HB; have HB := n0_; clear n0_; (try clear hb); (try clear hb2); (try clear hk); (try clear hi)))
  go_ret2
  exact ⟨by first | rfl | (simp [errW_none, errW_some] <;> rfl) | (simp [*, errW_none, errW_some] <;> rfl), by repeat (first | (with_reducible first | exact HB.out | apply below_alloc | apply pw_below_drewN | apply below_drew1) | exact HB.out)⟩
 ·rw [if_neg c3] at H
  have c3b0 : (t257 == 0) = false := beq_eq_false_iff_ne.mpr c3
  have c3b1 : (t257 != 0) = true := bne_iff_ne.mpr c3
  simp only [Option.some.injEq, Prod.mk.injEq] at H
  obtain ⟨rfl, rfl⟩ := H
  go_enter Tryz.func19, Tryz.ntmps19
  go_wp2_with (first | ((with_reducible refine gate_callee (f := 40) rfl ?_); refine goesL_ (some 6) rfl rfl Tryz.func40 (by kernel_rfl) rfl #[.string a0] rfl (by (try simp only [List.map_toArray, List.map_cons, List.map_nil]); first | done | rfl | (simp only [List.length_drop, List.length_take]; rfl)) ?_; (with_reducible refine (name_Check.calls a0 t257 _ A2.out).mono ?_); rintro e w7 ⟨rfl, hb⟩; refine ⟨_, rfl, ?_⟩; have n0_ := Aside0.mk (below_step (by repeat (first | (with_reducible first | exact HB.out | apply below_alloc | apply pw_below_drewN | apply below_drew1) | exact HB.out)) hb); clear HB; have HB := n0_; clear n0_; (try clear hb); (try clear hb2); (try clear hk); (try clear hi)))
  go_ret2
  exact ⟨by first | rfl | (simp [errW_none, errW_some] <;> rfl) | (simp [*, errW_none, errW_some] <;> rfl), by repeat (first | (with_reducible first | exact HB.out | apply below_alloc | apply pw_below_drewN | apply below_drew1) | exact HB.out)⟩

mutual
def wayzgoosetop_keyed.j0 : Nat → List ByteArray → List Int → Bool → Option (List ByteArray × Bool)
 | 0, _, _, _ => none
 | k + 1, x0, x4, x23 => if x23 = true then (some (([] : List ByteArray), false)) else (wayzgoosetop_keyed.l0 k x0 x4 ([] : List ByteArray) 0)
def wayzgoosetop_keyed.l0 : Nat → List ByteArray → List Int → List ByteArray → Int → Option (List ByteArray × Bool)
 | 0, _, _, _, _ => none
 | k + 1, x0, x4, x6, x7 => if x7 < (x4.length : Int) then (if 0 ≤ x7 then (if (rd x4 x7) < 0 then (wayzgoosetop_keyed.j2 k x0 x4 x6 x7 true) else (wayzgoosetop_keyed.j2 k x0 x4 x6 x7 (decide ((rd x4 x7) ≥ (x0.length : Int))))) else (none)) else (some (x6, true))
def wayzgoosetop_keyed.j2 : Nat → List ByteArray → List Int → List ByteArray → Int → Bool → Option (List ByteArray × Bool)
 | 0, _, _, _, _, _ => none
 | k + 1, x0, x4, x6, x7, x43 => if x43 = true then (some (([] : List ByteArray), false)) else (if 0 ≤ x7 then (if x7 < (x4.length : Int) then (if 0 ≤ (rd x4 x7) then (if (rd x4 x7) < (x0.length : Int) then ((name_Key.f (rdOf ByteArray.empty x0 (rd x4 x7))).bind fun bt267 => (if bt267.2 = 0 then (if x6.length < 8796093022208 then (wayzgoosetop_keyed.l0 k x0 x4 (x6 ++ [bt267.1]) (wrap64 (x7 + 1))) else (none)) else (some (([] : List ByteArray), false)))) else (none)) else (none)) else (none)) else (none))
end
def wayzgoosetop_keyed.f (k : Nat) (l0 : List ByteArray) : Option (List ByteArray × Bool) := (name_Sort.f l0).bind fun bt259 => (if bt259.2 = 0 then (wayzgoosetop_keyed.j0 k l0 bt259.1 ((bt259.1.length : Int) != (l0.length : Int))) else (wayzgoosetop_keyed.j0 k l0 bt259.1 true))
set_option maxHeartbeats 8000000 in
set_option maxRecDepth 100000 in
theorem wayzgoosetop_keyed.calls (k : Nat) (A0 : Option Addr) (c0 : Nat) (l0 : List ByteArray) (r1 : List ByteArray) (r2 : Bool) (w : World) (hr0 : Kd.C Kd.string w A0 l0.length l0) (hc0 : l0.length ≤ c0) (h : wayzgoosetop_keyed.f k l0 = some (r1, r2)) :
  Calls Tryz.prog 7 #[.slice A0 l0.length c0] w fun e w' => ∃ v0_ : Value, e = .returned (.tuple #[v0_, .bool r2]) ∧ Kd.R Kd.string 9 w' w.heap.size (fun _ => True) v0_ r1 ∧ Below w.heap.size w w' := by
 have HR0 := Aside0.mk hr0
 have HC0 := Aside0.mk hc0
 clear hr0 hc0
 have HB := Aside0.mk (Below.refl w.heap.size w)
 have H : ((name_Sort.f l0).bind fun bt259 => (if bt259.2 = 0 then (wayzgoosetop_keyed.j0 k l0 bt259.1 ((bt259.1.length : Int) != (l0.length : Int))) else (wayzgoosetop_keyed.j0 k l0 bt259.1 true))) = some (r1, r2) := h
 clear h
 replace H := Option.bind_eq_some_iff.mp H
 obtain ⟨⟨t259, t260⟩, A20, H⟩ := H
 try dsimp only at H
 have A2 := Aside0.mk A20
 clear A20
 have HC3 := Aside0.mk H
 clear H
 go_enter Tryz.func7, Tryz.ntmps7
 go_upto_region 2 with (first | ((with_reducible refine gate_callee (f := 18) rfl ?_); refine goesL_ (some 12) rfl rfl Tryz.func18 (by kernel_rfl) rfl #[.slice A0 l0.length c0] rfl (by (try simp only [List.map_toArray, List.map_cons, List.map_nil]); first | done | rfl | (simp only [List.length_drop, List.length_take]; rfl)) ?_; (with_reducible refine (name_Sort.calls _ _ l0 t259 t260 _ ?side1 ?side2 A2.out).mono ?_); (case side1 => repeat (first | exact HR0.out | (with_reducible refine Kd.C_alloc ?_ _) | (with_reducible refine Kd.C_drewN ?_ _) | (with_reducible refine Kd.C_drew ?_))); (case side2 => exact HC0.out); rintro e w4 ⟨v261, rfl, ho0, hb⟩; refine ⟨_, rfl, ?_⟩; have n0_ := Aside0.mk (Kd.R_lower ho0 (below_size (by repeat (first | (with_reducible first | exact HB.out | apply below_alloc | apply pw_below_drewN | apply below_drew1) | exact HB.out)))); have n1_ := Aside0.mk (below_step (by repeat (first | (with_reducible first | exact HB.out | apply below_alloc | apply pw_below_drewN | apply below_drew1) | exact HB.out)) hb); clear HB; have HO262 := n0_; have HB := n1_; clear n0_ n1_; (try clear hb); (try clear hb2); (try clear hk); (try clear hi); (try clear ho0)))
 (try simp only [Act.put, List.setIfInBounds_toArray, List.set_cons_zero, List.set_cons_succ])
 go_cut [23] (fun v23 wc => ∃ (kq : Nat) (x23_2 : Bool), v23 = .bool x23_2 ∧ Aside0 (wayzgoosetop_keyed.j0 kq l0 t259 x23_2 = some (r1, r2)) ∧ Aside0 (kq ≤ k) ∧ Aside0 (Kd.R (Kd.int .i64) 3 wc w.heap.size (fun _ => True) v261 t259) ∧ Aside0 (Below w.heap.size w wc))
 case first =>
  have H := HC3.out
  clear HC3
  by_cases c5 : t260 = 0
  ·rw [if_pos c5] at H
   have c5b0 : (t260 == 0) = true := beq_iff_eq.mpr c5
   have c5b1 : (t260 != 0) = false := bne_eq_false_iff_eq.mpr c5
   clear c5
   (first | rw [c5b0] | (simp only [i64_w, i32_w]; rw [c5b0]) | skip)
   have H' := Aside0.mk H
   clear H
   obtain ⟨Ao6, co6, eo6⟩ := Kd.R_slice HO262.out
   subst eo6
   go_wp2
   go_meet
   case rel => exact ⟨_, (((t259.length : Int) != (l0.length : Int))), (by first | rfl | (simp; done) | (simp [*]; done)), H', ⟨by first | omega | exact Nat.le_refl _⟩, ⟨by (with_reducible repeat (first | apply Kd.R_alloc | apply Kd.R_drewN | apply Kd.R_drew)); exact HO262.out⟩, ⟨by repeat (first | (with_reducible first | exact HB.out | apply below_alloc | apply pw_below_drewN | apply below_drew1) | exact HB.out)⟩⟩
  ·rw [if_neg c5] at H
   have c5b0 : (t260 == 0) = false := beq_eq_false_iff_ne.mpr c5
   have c5b1 : (t260 != 0) = true := bne_iff_ne.mpr c5
   (first | rw [c5b0] | (simp only [i64_w, i32_w]; rw [c5b0]) | skip)
   have H' := Aside0.mk H
   clear H
   go_wp2
   go_meet
   case rel => exact ⟨_, (true), (by first | rfl | (simp; done) | (simp [*]; done)), H', ⟨by first | omega | exact Nat.le_refl _⟩, ⟨by (with_reducible repeat (first | apply Kd.R_alloc | apply Kd.R_drewN | apply Kd.R_drew)); exact HO262.out⟩, ⟨by repeat (first | (with_reducible first | exact HB.out | apply below_alloc | apply pw_below_drewN | apply below_drew1) | exact HB.out)⟩⟩
 case rest =>
  clear HC3
  try clear c1
  try clear p2
  try clear c5
  try clear c5b0
  try clear c5b1
  obtain ⟨kq, x23_2, rfl, HA, HJ2, HO_4, HB⟩ := hcut
  cases kq with
  | zero => exact absurd HA.out (by simp [wayzgoosetop_keyed.j0])
  | succ kj2 =>
   have H := HA.out
   clear HA
   simp only [wayzgoosetop_keyed.j0] at H
   by_cases c7 : x23_2 = true
   ·subst c7
    have H1 : (some (([] : List ByteArray), false)) = some (r1, r2) := by rw [if_pos rfl] at H; exact H
    clear H
    have H := H1
    clear H1
    simp only [Option.some.injEq, Prod.mk.injEq] at H
    obtain ⟨rfl, rfl⟩ := H
    go_wp2
    go_ret2
    exact ⟨_, by first | rfl | (simp [errW_none, errW_some] <;> rfl) | (simp [*, errW_none, errW_some] <;> rfl), by first | exact Kd.R_nil _ _ _ _ _ | exact Kd.N_nil _ _ _ _ _ | exact Kd.V_nil _ _ _ _ _ | exact Kd.Q_nil _ _ _ _ _ | exact Kd.S_nil _ _ _ _ _, by repeat (first | (with_reducible first | exact HB.out | apply below_alloc | apply pw_below_drewN | apply below_drew1) | exact HB.out)⟩
   ·replace c7 := Bool.eq_false_iff.mpr c7
    subst c7
    have H1 : (wayzgoosetop_keyed.l0 kj2 l0 t259 ([] : List ByteArray) 0) = some (r1, r2) := by rw [if_neg (show ¬ (false = true) by decide)] at H; exact H
    clear H
    have H := H1
    clear H1
    have H' := Aside0.mk H
    clear H
    go_wp2
    go_loopg [6, 7] kj2 (fun kq v6 v7 w' => ∃ (x6_2 : List ByteArray) (x7_2 : Int), v7 = .int .i64 x7_2 ∧ Aside0 (wayzgoosetop_keyed.l0 kq l0 t259 x6_2 x7_2 = some (r1, r2)) ∧ Aside0 (kq ≤ kj2) ∧ Aside0 (Kd.R (Kd.int .i64) 3 w' w.heap.size (fun _ => True) v261 t259) ∧ Aside0 (Kd.R Kd.string 9 w' w.heap.size (fun _ => True) v6 x6_2) ∧ Aside0 (Below w.heap.size w w'))
    case atStart => exact ⟨(([] : List ByteArray)), (0), (by first | rfl | (simp; done) | (simp [*]; done)), H', ⟨Nat.le_refl _⟩, ⟨by (with_reducible repeat (first | apply Kd.R_alloc | apply Kd.R_drewN | apply Kd.R_drew)); exact HO_4.out⟩, ⟨by first | exact Kd.R_nil _ _ _ _ _ | exact Kd.N_nil _ _ _ _ _ | exact Kd.V_nil _ _ _ _ _ | exact Kd.Q_nil _ _ _ _ _ | exact Kd.S_nil _ _ _ _ _⟩, ⟨by repeat (first | (with_reducible first | exact HB.out | apply below_alloc | apply pw_below_drewN | apply below_drew1) | exact HB.out)⟩⟩
    case round =>
     clear H'
     try clear c1
     try clear p2
     try clear c5
     try clear c5b0
     try clear c5b1
     try clear c7
     try clear p2
     obtain ⟨x6_2, x7_2, rfl, HA, HK2, HO_4, HO_6, HB⟩ := hrel
     cases gk with
     | zero => exact absurd HA.out (by simp [wayzgoosetop_keyed.l0])
     | succ k2 =>
      have H := HA.out
      clear HA
      simp only [wayzgoosetop_keyed.l0] at H
      by_cases c8 : x7_2 < (t259.length : Int)
      ·rw [if_pos c8] at H
       have c8b0 : decide (x7_2 < (t259.length : Int)) = true := decide_eq_true c8
       clear c8
       have HC9 := Aside0.mk H
       clear H
       obtain ⟨Ao10, co10, eo10⟩ := Kd.R_slice HO_4.out
       subst eo10
       go_upto_region 8 with (fail)
       go_cut [43] (fun v43 wc => ∃ (kq : Nat) (x43_8 : Bool), v43 = .bool x43_8 ∧ Aside0 (wayzgoosetop_keyed.j2 kq l0 t259 x6_2 x7_2 x43_8 = some (r1, r2)) ∧ Aside0 (kq ≤ k2) ∧ Aside0 (Kd.R (Kd.int .i64) 3 wc w.heap.size (fun _ => True) (.slice Ao10 t259.length co10) t259) ∧ Aside0 (Kd.R Kd.string 9 wc w.heap.size (fun _ => True) u6 x6_2) ∧ Aside0 (Below w.heap.size w wc))
       case first =>
        have H := HC9.out
        clear HC9
        by_cases c11 : 0 ≤ x7_2
        ·rw [if_pos c11] at H
         have c11b0 : decide (0 ≤ x7_2) = true := decide_eq_true c11
         clear c11
         (first | rw [c11b0] | (simp only [i64_w, i32_w]; rw [c11b0]) | skip)
         by_cases c12 : (rd t259 x7_2) < 0
         ·rw [if_pos c12] at H
          have c12b0 : decide ((rd t259 x7_2) < 0) = true := decide_eq_true c12
          clear c12
          have H' := Aside0.mk H
          clear H
          have p263 : 0 ≤ (x7_2 : Int) := of_decide_eq_true (by first | (with_reducible assumption) | assumption)
          have q263 : x7_2 < (t259.length : Int) := of_decide_eq_true (by first | (with_reducible assumption) | assumption)
          obtain ⟨ad263, e263, hx263_0⟩ := Kd.at_int (Kd.R_reads' HO_4.out).2.2 x7_2 p263 q263
          cases e263
          replace p263 := eq_true p263
          replace q263 := eq_true q263
          go_wp2
          go_meet
          case rel => exact ⟨_, (true), (by first | rfl | (simp; done) | (simp [*]; done)), H', ⟨by have := HJ2.out; have := HK2.out; first | omega | exact Nat.le_refl _⟩, ⟨by (with_reducible repeat (first | apply Kd.R_alloc | apply Kd.R_drewN | apply Kd.R_drew)); exact HO_4.out⟩, ⟨by (with_reducible repeat (first | apply Kd.R_alloc | apply Kd.R_drewN | apply Kd.R_drew)); exact HO_6.out⟩, ⟨by repeat (first | (with_reducible first | exact HB.out | apply below_alloc | apply pw_below_drewN | apply below_drew1) | exact HB.out)⟩⟩
         ·rw [if_neg c12] at H
          have c12b0 : decide ((rd t259 x7_2) < 0) = false := decide_eq_false c12
          clear c12
          have H' := Aside0.mk H
          clear H
          have p263 : 0 ≤ (x7_2 : Int) := of_decide_eq_true (by first | (with_reducible assumption) | assumption)
          have q263 : x7_2 < (t259.length : Int) := of_decide_eq_true (by first | (with_reducible assumption) | assumption)
          obtain ⟨ad263, e263, hx263_0⟩ := Kd.at_int (Kd.R_reads' HO_4.out).2.2 x7_2 p263 q263
          cases e263
          replace p263 := eq_true p263
          replace q263 := eq_true q263
          have p264 : 0 ≤ (x7_2 : Int) := of_decide_eq_true (by first | (with_reducible assumption) | assumption)
          have q264 : x7_2 < (t259.length : Int) := of_decide_eq_true (by first | (with_reducible assumption) | assumption)
          obtain ⟨ad264, e264, hx264_0⟩ := Kd.at_int (Kd.R_reads' HO_4.out).2.2 x7_2 p264 q264
          obtain rfl : ad263 = ad264 := (by injection e264)
          replace p264 := eq_true p264
          replace q264 := eq_true q264
          go_wp2
          go_meet
          case rel => exact ⟨_, (decide ((rd t259 x7_2) ≥ (l0.length : Int))), (by first | rfl | (simp; done) | (simp [*]; done)), H', ⟨by have := HJ2.out; have := HK2.out; first | omega | exact Nat.le_refl _⟩, ⟨by (with_reducible repeat (first | apply Kd.R_alloc | apply Kd.R_drewN | apply Kd.R_drew)); exact HO_4.out⟩, ⟨by (with_reducible repeat (first | apply Kd.R_alloc | apply Kd.R_drewN | apply Kd.R_drew)); exact HO_6.out⟩, ⟨by repeat (first | (with_reducible first | exact HB.out | apply below_alloc | apply pw_below_drewN | apply below_drew1) | exact HB.out)⟩⟩
        ·rw [if_neg c11] at H
         exact absurd H (by simp)
       case rest =>
        clear HC9
        try clear c1
        try clear p2
        try clear q2
        try clear hx2
        try clear c5
        try clear c5b0
        try clear c5b1
        try clear c7
        try clear c8
        try clear c8b0
        try clear c11
        try clear c11b0
        try clear c12
        try clear c12b0
        try clear hx263_0
        try clear hx264_0
        try clear p2
        try clear p263
        try clear p264
        try clear q263
        try clear q264
        obtain ⟨kq, x43_8, rfl, HA, HJ8, HO_4, HO_6, HB⟩ := hcut
        cases kq with
        | zero => exact absurd HA.out (by simp [wayzgoosetop_keyed.j2])
        | succ kj8 =>
         have H := HA.out
         clear HA
         simp only [wayzgoosetop_keyed.j2] at H
         by_cases c13 : x43_8 = true
         ·subst c13
          have H1 : (some (([] : List ByteArray), false)) = some (r1, r2) := by rw [if_pos rfl] at H; exact H
          clear H
          have H := H1
          clear H1
          simp only [Option.some.injEq, Prod.mk.injEq] at H
          obtain ⟨rfl, rfl⟩ := H
          go_wp2
          go_ret2
          exact ⟨_, by first | rfl | (simp [errW_none, errW_some] <;> rfl) | (simp [*, errW_none, errW_some] <;> rfl), by first | exact Kd.R_nil _ _ _ _ _ | exact Kd.N_nil _ _ _ _ _ | exact Kd.V_nil _ _ _ _ _ | exact Kd.Q_nil _ _ _ _ _ | exact Kd.S_nil _ _ _ _ _, by repeat (first | (with_reducible first | exact HB.out | apply below_alloc | apply pw_below_drewN | apply below_drew1) | exact HB.out)⟩
         ·replace c13 := Bool.eq_false_iff.mpr c13
          subst c13
          have H1 : (if 0 ≤ x7_2 then (if x7_2 < (t259.length : Int) then (if 0 ≤ (rd t259 x7_2) then (if (rd t259 x7_2) < (l0.length : Int) then ((name_Key.f (rdOf ByteArray.empty l0 (rd t259 x7_2))).bind fun bt267 => (if bt267.2 = 0 then (if x6_2.length < 8796093022208 then (wayzgoosetop_keyed.l0 kj8 l0 t259 (x6_2 ++ [bt267.1]) (wrap64 (x7_2 + 1))) else (none)) else (some (([] : List ByteArray), false)))) else (none)) else (none)) else (none)) else (none)) = some (r1, r2) := by rw [if_neg (show ¬ (false = true) by decide)] at H; exact H
          clear H
          have H := H1
          clear H1
          by_cases c14 : 0 ≤ x7_2
          ·rw [if_pos c14] at H
           have c14b0 : decide (0 ≤ x7_2) = true := decide_eq_true c14
           clear c14
           by_cases c15 : x7_2 < (t259.length : Int)
           ·rw [if_pos c15] at H
            have c15b0 : decide (x7_2 < (t259.length : Int)) = true := decide_eq_true c15
            clear c15
            by_cases c16 : 0 ≤ (rd t259 x7_2)
            ·rw [if_pos c16] at H
             have c16b0 : decide (0 ≤ (rd t259 x7_2)) = true := decide_eq_true c16
             clear c16
             by_cases c17 : (rd t259 x7_2) < (l0.length : Int)
             ·rw [if_pos c17] at H
              have c17b0 : decide ((rd t259 x7_2) < (l0.length : Int)) = true := decide_eq_true c17
              clear c17
              replace H := Option.bind_eq_some_iff.mp H
              obtain ⟨⟨t267, t268⟩, A180, H⟩ := H
              try dsimp only at H
              have A18 := Aside0.mk A180
              clear A180
              by_cases c19 : t268 = 0
              ·rw [if_pos c19] at H
               have c19b0 : (t268 == 0) = true := beq_iff_eq.mpr c19
               have c19b1 : (t268 != 0) = false := bne_eq_false_iff_eq.mpr c19
               clear c19
               by_cases c20 : x6_2.length < 8796093022208
               ·rw [if_pos c20] at H
                have LMc20 := Aside0.mk c20
                clear c20
                obtain ⟨y269, hy269⟩ : ∃ y_ : List ByteArray, y_ = (x6_2 ++ [t267]) := ⟨_, rfl⟩
                replace H : (wayzgoosetop_keyed.l0 kj8 l0 t259 y269 (wrap64 (x7_2 + 1))) = some (r1, r2) := by first | (rw [hy269]; with_reducible exact H) | (have H2_ := (Option.bind_some _ _).symm.trans H; rw [hy269]; with_reducible exact H2_) | (have H2_ := (Option.bind_some _ _).symm.trans H; with_reducible exact H2_) | with_reducible exact H | (rw [hy269]; exact H) | exact H
                have Ny269 := Aside0.mk hy269
                clear hy269
                have H' := Aside0.mk H
                clear H
                have p265 : 0 ≤ (x7_2 : Int) := of_decide_eq_true (by first | (with_reducible assumption) | assumption)
                have q265 : x7_2 < (t259.length : Int) := of_decide_eq_true (by first | (with_reducible assumption) | assumption)
                obtain ⟨ad265, e265, hx265_0⟩ := Kd.at_int (Kd.R_reads' HO_4.out).2.2 x7_2 p265 q265
                cases e265
                replace p265 := eq_true p265
                replace q265 := eq_true q265
                have p266 : 0 ≤ ((rd t259 x7_2) : Int) := of_decide_eq_true (by first | (with_reducible assumption) | assumption)
                have q266 : (rd t259 x7_2) < (l0.length : Int) := of_decide_eq_true (by first | (with_reducible assumption) | assumption)
                obtain ⟨ad266, e266, hx266_0⟩ := Kd.at_string HR0.out (rd t259 x7_2) p266 q266
                cases e266
                replace hx266_0 := (HB.out.cell (World.block_lt_of_cell? w _ hx266_0)).trans hx266_0
                replace p266 := eq_true p266
                replace q266 := eq_true q266
                go_wp2_with (first | ((with_reducible refine gate_callee (f := 19) rfl ?_); refine goesL_ (some 52) rfl rfl Tryz.func19 (by kernel_rfl) rfl #[.string (rdOf ByteArray.empty l0 (rd t259 x7_2))] rfl (by (try simp only [List.map_toArray, List.map_cons, List.map_nil]); first | done | rfl | (simp only [List.length_drop, List.length_take]; rfl)) ?_; (with_reducible refine (name_Key.calls (rdOf ByteArray.empty l0 (rd t259 x7_2)) t267 t268 _ A18.out).mono ?_); rintro e w21 ⟨rfl, hb⟩; refine ⟨_, rfl, ?_⟩; have n0_ := Aside0.mk (Kd.R_below (by (with_reducible repeat (first | apply Kd.R_alloc | apply Kd.R_drewN | apply Kd.R_drew)); exact HO_4.out) hb); have n1_ := Aside0.mk (Kd.R_below (by (with_reducible repeat (first | apply Kd.R_alloc | apply Kd.R_drewN | apply Kd.R_drew)); exact HO_6.out) hb); have n2_ := Aside0.mk (below_step (by repeat (first | (with_reducible first | exact HB.out | apply below_alloc | apply pw_below_drewN | apply below_drew1) | exact HB.out)) hb); clear HO_4; clear HO_6; clear HB; have HO_4 := n0_; have HO_6 := n1_; have HB := n2_; clear n0_ n1_ n2_; (try clear hb); (try clear hb2); (try clear hk); (try clear hi)) | ((with_reducible refine gate_builtin (b := .append) (xs := #[.tmp 57, .tmp 59]) rfl ?_); (try (refine gate_guard (by rfl) ?_; dsimp only)); at_builtin; refine Kd.R_append Kd.string (w0 := w) w.heap.size rfl (.tmp 57) (.tmp 59) 25 9 (.string ⟨#[]⟩) 16 rfl Tryz.underlying25 info9 rfl (by decide) (by omega) u6 x6_2 t267 [.string t267] (fun _ => True) (fun _ => False) rfl rfl ?aP (fun _ hk => hk.elim) ?aF ?aO ?aB ?aS ?aL ?_; (case aP => exact rfl); (case aB => exact (by repeat (first | (with_reducible first | exact HB.out | apply below_alloc | apply pw_below_drewN | apply below_drew1) | exact HB.out))); (case aF => exact (fun _ _ => trivial)); (case aO => exact (by (with_reducible repeat (first | apply Kd.R_alloc | apply Kd.R_drewN | apply Kd.R_drew)); exact HO_6.out)); (case aS => exact (below_size (by repeat (first | (with_reducible first | exact HB.out | apply below_alloc | apply pw_below_drewN | apply below_drew1) | exact HB.out)))); (case aL => have := LMc20.out; omega); intro v270 w22 ho hb hg hat; rw [← Ny269.out] at ho; have n0_ := Aside0.mk (Kd.R_over' (by (with_reducible repeat (first | apply Kd.R_alloc | apply Kd.R_drewN | apply Kd.R_drew)); exact HO_4.out) (Kd.R_typed (by (with_reducible repeat (first | apply Kd.R_alloc | apply Kd.R_drewN | apply Kd.R_drew)); exact HO_6.out)) (by decide) hg); have n1_ := Aside0.mk (hb); have n2_ := Aside0.mk (ho); clear HO_4; clear HB; clear HO_6; have HO_4 := n0_; have HB := n1_; have HO271 := n2_; clear n0_ n1_ n2_; clear ho hb hg hat))
                go_roundg kj8
                case measure => have := HJ2.out; have := HK2.out; have := HJ8.out; omega
                case rel => exact ⟨(y269), (wrap64 (x7_2 + 1)), (by first | rfl | (simp; done) | (simp [*]; done)), H', ⟨by have := HJ2.out; have := HK2.out; have := HJ8.out; omega⟩, ⟨by (with_reducible repeat (first | apply Kd.R_alloc | apply Kd.R_drewN | apply Kd.R_drew)); exact HO_4.out⟩, ⟨by (with_reducible repeat (first | apply Kd.R_alloc | apply Kd.R_drewN | apply Kd.R_drew)); exact HO271.out⟩, ⟨by repeat (first | (with_reducible first | exact HB.out | apply below_alloc | apply pw_below_drewN | apply below_drew1) | exact HB.out)⟩⟩
               ·rw [if_neg c20] at H
                exact absurd H (by simp)
              ·rw [if_neg c19] at H
               have c19b0 : (t268 == 0) = false := beq_eq_false_iff_ne.mpr c19
               have c19b1 : (t268 != 0) = true := bne_iff_ne.mpr c19
               simp only [Option.some.injEq, Prod.mk.injEq] at H
               obtain ⟨rfl, rfl⟩ := H
               have p265 : 0 ≤ (x7_2 : Int) := of_decide_eq_true (by first | (with_reducible assumption) | assumption)
               have q265 : x7_2 < (t259.length : Int) := of_decide_eq_true (by first | (with_reducible assumption) | assumption)
               obtain ⟨ad265, e265, hx265_0⟩ := Kd.at_int (Kd.R_reads' HO_4.out).2.2 x7_2 p265 q265
               cases e265
               replace p265 := eq_true p265
               replace q265 := eq_true q265
               have p266 : 0 ≤ ((rd t259 x7_2) : Int) := of_decide_eq_true (by first | (with_reducible assumption) | assumption)
               have q266 : (rd t259 x7_2) < (l0.length : Int) := of_decide_eq_true (by first | (with_reducible assumption) | assumption)
               obtain ⟨ad266, e266, hx266_0⟩ := Kd.at_string HR0.out (rd t259 x7_2) p266 q266
               cases e266
               replace hx266_0 := (HB.out.cell (World.block_lt_of_cell? w _ hx266_0)).trans hx266_0
               replace p266 := eq_true p266
               replace q266 := eq_true q266
               go_wp2_with (first | ((with_reducible refine gate_callee (f := 19) rfl ?_); refine goesL_ (some 52) rfl rfl Tryz.func19 (by kernel_rfl) rfl #[.string (rdOf ByteArray.empty l0 (rd t259 x7_2))] rfl (by (try simp only [List.map_toArray, List.map_cons, List.map_nil]); first | done | rfl | (simp only [List.length_drop, List.length_take]; rfl)) ?_; (with_reducible refine (name_Key.calls (rdOf ByteArray.empty l0 (rd t259 x7_2)) t267 t268 _ A18.out).mono ?_); rintro e w23 ⟨rfl, hb⟩; refine ⟨_, rfl, ?_⟩; have n0_ := Aside0.mk (Kd.R_below (by (with_reducible repeat (first | apply Kd.R_alloc | apply Kd.R_drewN | apply Kd.R_drew)); exact HO_4.out) hb); have n1_ := Aside0.mk (Kd.R_below (by (with_reducible repeat (first | apply Kd.R_alloc | apply Kd.R_drewN | apply Kd.R_drew)); exact HO_6.out) hb); have n2_ := Aside0.mk (below_step (by repeat (first | (with_reducible first | exact HB.out | apply below_alloc | apply pw_below_drewN | apply below_drew1) | exact HB.out)) hb); clear HO_4; clear HO_6; clear HB; have HO_4 := n0_; have HO_6 := n1_; have HB := n2_; clear n0_ n1_ n2_; (try clear hb); (try clear hb2); (try clear hk); (try clear hi)))
               go_ret2
               exact ⟨_, by first | rfl | (simp [errW_none, errW_some] <;> rfl) | (simp [*, errW_none, errW_some] <;> rfl), by first | exact Kd.R_nil _ _ _ _ _ | exact Kd.N_nil _ _ _ _ _ | exact Kd.V_nil _ _ _ _ _ | exact Kd.Q_nil _ _ _ _ _ | exact Kd.S_nil _ _ _ _ _, by repeat (first | (with_reducible first | exact HB.out | apply below_alloc | apply pw_below_drewN | apply below_drew1) | exact HB.out)⟩
             ·rw [if_neg c17] at H
              exact absurd H (by simp)
            ·rw [if_neg c16] at H
             exact absurd H (by simp)
           ·rw [if_neg c15] at H
            exact absurd H (by simp)
          ·rw [if_neg c14] at H
           exact absurd H (by simp)
      ·rw [if_neg c8] at H
       have c8b0 : decide (x7_2 < (t259.length : Int)) = false := decide_eq_false c8
       clear c8
       simp only [Option.some.injEq, Prod.mk.injEq] at H
       obtain ⟨rfl, rfl⟩ := H
       obtain ⟨Ao24, co24, eo24⟩ := Kd.R_slice HO_4.out
       subst eo24
       go_wp2
       go_ret2
       exact ⟨_, by first | rfl | (simp [errW_none, errW_some] <;> rfl) | (simp [*, errW_none, errW_some] <;> rfl), by (with_reducible repeat (first | apply Kd.R_alloc | apply Kd.R_drewN | apply Kd.R_drew)); exact HO_6.out, by repeat (first | (with_reducible first | exact HB.out | apply below_alloc | apply pw_below_drewN | apply below_drew1) | exact HB.out)⟩
end Go.Proofs.YteoknahabkoknaaGreatDoor.P
namespace Go.Proofs.YteoknahabkoknaaGreatDoor.P
open Go.RowKit Go.Proofs.YteoknahabkoknaaGreatDoorW.PrintWords Go.Proofs.YteoknahabkoknaaGreatDoorW.PrintLast
set_option linter.unusedVariables false
set_option linter.unusedSimpArgs false
/- Names, their keys, how they compare, and how they are sorted. -/
/-- A name of one of the two alphabets, of at most so many letters. -/
def NameIs (n : Nat) (s : ByteArray) : Prop := 1 ≤ s.size ∧ s.size ≤ n ∧ ∃ c, (c = 1 ∨ c = 2) ∧ ∀ b ∈ s.data.toList, kindN b.toNat = c
def isLo (n : Nat) : Bool := decide (97 ≤ n) && decide (n ≤ 122)
theorem kind_small {n : Nat} (h : kindN n ≠ 0) : n < 128 := by
 rcases Nat.lt_or_ge n 128 with h1 | h1
 ·exact h1
 ·exact absurd (kindN_big h1) h
set_option maxRecDepth 100000 in
theorem kind_table : (List.range 128).all (fun n => decide (name_kind.f 40 (n : Int) = some (kindN n))) = true := by kernel_rfl
theorem kind40 {n : Nat} (h : n < 128) : name_kind.f 40 (n : Int) = some (kindN n) := of_decide_eq_true (List.all_eq_true.1 kind_table n (List.mem_range.2 h))
set_option maxRecDepth 100000 in
theorem sound_table : (List.range 128).all (fun n => decide (kindN n ≠ 0) → ((soundL n).all (fun b => isLo b.toNat) && decide (1 ≤ (soundL n).length)) = true) = true := by kernel_rfl
theorem sound_lo {n : Nat} (h : kindN n ≠ 0) : (∀ b ∈ soundL n, isLo b.toNat = true) ∧ 1 ≤ (soundL n).length := by
 have h1 := of_decide_eq_true (List.all_eq_true.1 sound_table n (List.mem_range.2 (kind_small h)))
 have h2 := h1 (decide_eq_true h)
 rw [Bool.and_eq_true] at h2
 exact ⟨fun b hb => List.all_eq_true.1 h2.1 b hb, of_decide_eq_true h2.2⟩
set_option maxRecDepth 100000 in
theorem low_table : (List.range 128).all (fun n => decide (isLo n = true → soundL n = [n.toUInt8] ∧ kindN n = 1)) = true := by kernel_rfl
theorem low_sound {n : Nat} (h : isLo n = true) : soundL n = [n.toUInt8] ∧ kindN n = 1 := by
 have h1 : n < 128 := by unfold isLo at h; simp at h; omega
 exact of_decide_eq_true (List.all_eq_true.1 low_table n (List.mem_range.2 h1)) h
/-- The key of a name. -/
def nkey (s : ByteArray) : ByteArray := ⟨(keyL s.data.toList).toArray⟩
theorem nkey_data (s : ByteArray) : (nkey s).data.toList = keyL s.data.toList := by simp [nkey]
theorem keyL_lo {l : List UInt8} (h : ∀ b ∈ l, kindN b.toNat ≠ 0) : (∀ b ∈ keyL l, isLo b.toNat = true) ∧ l.length ≤ (keyL l).length := by
 induction l with
 | nil => simp [keyL]
 | cons b l ih =>
  have h1 := ih (fun x hx => h x (by simp [hx]))
  have h2 := sound_lo (h b (by simp))
  have e : keyL (b :: l) = soundL b.toNat ++ keyL l := by simp [keyL]
  rw [e]
  refine ⟨fun x hx => ?_, by rw [List.length_append, List.length_cons]; omega⟩
  rcases List.mem_append.1 hx with hx | hx
  ·exact h2.1 x hx
  ·exact h1.1 x hx
theorem keyL_same {l : List UInt8} (h : ∀ b ∈ l, isLo b.toNat = true) : keyL l = l := by
 induction l with
 | nil => rfl
 | cons b l ih =>
  have e : keyL (b :: l) = soundL b.toNat ++ keyL l := by simp [keyL]
  rw [e, ih (fun x hx => h x (by simp [hx])), (low_sound (h b (by simp))).1]
  simp
theorem size_data (s : ByteArray) : s.size = s.data.toList.length := by rw [Array.length_toList]; rfl
theorem NameIs.kind {n : Nat} {s : ByteArray} (h : NameIs n s) : ∀ b ∈ s.data.toList, kindN b.toNat ≠ 0 := by
 obtain ⟨_, _, c, hc, hb⟩ := h
 intro b hm
 rw [hb b hm]
 omega
/-- What the key of a name is: letters of the first alphabet, at most twice as many. -/
theorem nkey_is {n : Nat} {s : ByteArray} (h : NameIs n s) : (∀ b ∈ (nkey s).data.toList, isLo b.toNat = true) ∧ 1 ≤ (nkey s).size ∧ (nkey s).size ≤ 2 * n := by
 have h1 := keyL_lo h.kind
 have h2 := keyL_len s.data.toList
 have h3 := size_data s
 obtain ⟨a1, a2, _⟩ := h
 rw [size_data (nkey s), nkey_data]
 exact ⟨h1.1, by omega, by omega⟩
theorem of_ok {s : ByteArray} (h : NameIs 6 s) : name_of.f s = some (nkey s) := by
 unfold name_of.f
 rw [if_pos ⟨h.2.1, List.all_eq_true.2 fun b hb => decide_eq_true (kind_small (h.kind b hb))⟩]
 rfl
theorem chk_ok {c : Int} (hc : c ≠ 0) : ∀ (l : List UInt8) (f : Int), (f = 0 ∨ f = c) → (∀ b ∈ l, kindN b.toNat = c) → chk f l = 0
 | [], _, _, _ => rfl
 | b :: l, f, hf, h => by
  have hb := h b (by simp)
  have hf2 : (if f = 0 then c else f) = c := by
   rcases hf with rfl | rfl
   ·rw [if_pos rfl]
   ·rw [if_neg hc]
  unfold chk
  simp only [hb, hf2]
  rw [if_neg (by simp [hc])]
  exact chk_ok hc l c (.inr rfl) (fun x hx => h x (by simp [hx]))
theorem Check_ok {s : ByteArray} (h : NameIs 6 s) : name_Check.f s = some 0 := by
 obtain ⟨a1, a2, c, hc, hb⟩ := h
 unfold name_Check.f
 rw [if_neg (by omega), if_neg (by omega), chk_ok (by omega) _ 0 (.inl rfl) hb]
theorem Key_ok {s : ByteArray} (h : NameIs 6 s) : name_Key.f s = some (nkey s, 0) := by
 unfold name_Key.f
 rw [Check_ok h, Option.bind_some, if_pos rfl, of_ok h]
 rfl
/-- A key is a right line. -/
theorem line_lo {s : ByteArray} (h : ∀ b ∈ s.data.toList, isLo b.toNat = true) (h1 : 1 ≤ s.size) (h2 : s.size ≤ 10) : proof_lineError.f s = some 0 := by
 have hsub : ∀ i j, ((s.extract i j).toList == (⟨#[32]⟩ : ByteArray).toList) = false := by
  intro i j
  rw [Go.ByteArray.toList_eq, Go.ByteArray.toList_eq, Go.Lib.extract_data, beq_eq_false_iff_ne]
  intro e
  have hm : (32 : UInt8) ∈ (s.data.toList.drop i).take (j - i) := by rw [e]; simp
  have := h 32 (List.mem_of_mem_drop (List.mem_of_mem_take hm))
  revert this
  decide
 unfold proof_lineError.f
 rw [if_neg (by omega), if_neg (by omega), if_pos (List.all_eq_true.2 fun b hb => by
  have := h b hb
  unfold isLo at this
  unfold lineCh
  rw [this]
  rfl)]
 unfold headBlank lastBlank
 rw [hsub, hsub, if_neg (by simp), if_neg (by simp)]
theorem cmpS_eq (a b : ByteArray) : (cmpS a b < 0 → a.toList ≤ b.toList) ∧ (¬ cmpS a b < 0 → b.toList ≤ a.toList) ∧ (cmpS a b = 0 → a.toList = b.toList) := by
 unfold cmpS
 by_cases h : a.toList < b.toList
 ·rw [if_pos h]
  exact ⟨fun _ => Std.le_of_lt h, fun h => by omega, fun h => by omega⟩
 ·rw [if_neg h]
  have h1 := List.not_lt.1 h
  by_cases h2 : b.toList < a.toList
  ·rw [if_pos h2]
   exact ⟨fun h => by omega, fun _ => h1, fun h => by omega⟩
  ·rw [if_neg h2]
   exact ⟨fun h => by omega, fun _ => h1, fun _ => List.le_antisymm (List.not_lt.1 h2) h1⟩
theorem bt_data (s : ByteArray) (h : 0 < s.size) : ∃ b ∈ s.data.toList, bt s 0 = (b.toNat : Int) := by
 obtain ⟨d⟩ := s
 have h2 : 0 < d.size := h
 refine ⟨d[0], by simp, ?_⟩
 unfold bt
 rw [dif_pos (show (0 : Int).toNat < (⟨d⟩ : ByteArray).size from h)]
 rfl
theorem compare1_ok {n : Nat} {s : ByteArray} (h : NameIs n s) : ∃ c, name_compare_1.f 40 s = some c ∧ ((∀ b ∈ s.data.toList, isLo b.toNat = true) → c = 1) := by
 obtain ⟨b, hb, e⟩ := bt_data s h.1
 have hk := kind_small (h.kind b hb)
 unfold name_compare_1.f
 rw [if_pos (by have := h.1; omega), e, show wrap32 (b.toNat : Int) = (b.toNat : Int) by unfold wrap32; omega, kind40 hk]
 exact ⟨_, rfl, fun hl => (low_sound (hl b hb)).2⟩
theorem cmpN_ok {a b : ByteArray} (ha : NameIs 6 a) (hb : NameIs 6 b) : ∃ c, cmpN a b = some c ∧ (c < 0 → (nkey a).toList ≤ (nkey b).toList) ∧ (¬ c < 0 → (nkey b).toList ≤ (nkey a).toList) ∧ ((∀ x ∈ a.data.toList, isLo x.toNat = true) → (∀ x ∈ b.data.toList, isLo x.toNat = true) → c = cmpS (nkey a) (nkey b)) := by
 obtain ⟨c1, h1, l1⟩ := compare1_ok ha
 obtain ⟨c2, h2, l2⟩ := compare1_ok hb
 have h3 := cmpS_eq (nkey a) (nkey b)
 unfold cmpN name_compare.f name_key_53.f
 rw [of_ok ha, of_ok hb, h1, h2]
 simp only [Option.bind_some, cmpI_eq]
 rw [show (40 : Nat) = 37 + 3 from rfl, or2]
 refine ⟨_, rfl, ?_, ?_, ?_⟩
 ·intro h
  split at h
  ·rename_i h0
   rw [h3.2.2 h0]
   exact Std.le_refl _
  ·exact h3.1 h
 ·intro h
  split at h
  ·rename_i h0
   rw [h3.2.2 h0]
   exact Std.le_refl _
  ·exact h3.2.1 h
 ·intro hl1 hl2
  rw [l1 hl1, l2 hl2, sg_eq]
  split
  ·rename_i h0
   exact h0.symm
  ·rfl
end Go.Proofs.YteoknahabkoknaaGreatDoor.P
namespace Go.Proofs.YteoknahabkoknaaGreatDoor.P
open Go.RowKit Go.WideMaps Go.Maps Go.Proofs.YteoknahabkoknaaGreatDoorW.PrintWords Go.Proofs.YteoknahabkoknaaGreatDoorW.PrintLast
set_option linter.unusedVariables false
set_option linter.unusedSimpArgs false
/- proof.counts, proof.stock and proof.Fresh, where there is one year: how many lines of a page are not in it. -/
/-- How often a line is on a page. -/
def cntB (l : List ByteArray) (s : ByteArray) : Int := ((l.filter fun x => decide (x.data.toList = s.data.toList)).length : Nat)
/-- A function turned at one line. -/
def turned (f : ByteArray → Int) (s : ByteArray) (v : Int) (t : ByteArray) : Int := if s.data.toList = t.data.toList then v else f t
theorem cntB_snoc (l : List ByteArray) (s : ByteArray) : cntB (l ++ [s]) = turned (cntB l) s (cntB l s + 1) := by
 funext t
 unfold cntB turned
 rw [List.filter_append, List.length_append]
 by_cases h : s.data.toList = t.data.toList
 ·have h2 : s.data = t.data := by simpa using h
  rw [if_pos h, h]
  simp [h2]
 ·have h2 : ¬ s.data = t.data := by simpa using h
  rw [if_neg h]
  simp [h2]
theorem cntB_le (l : List ByteArray) (s : ByteArray) : 0 ≤ cntB l s ∧ cntB l s ≤ l.length := by
 unfold cntB
 have := List.length_filter_le (fun x : ByteArray => decide (x.data.toList = s.data.toList)) l
 omega
theorem law9 : Keyed Tryz.prog 9 := string_keyed Tryz.underlying9
theorem zero3 (w : World) : (zeroValue 3).run Tryz.prog w = .ok (.int .i64 0) w := by kernel_rfl
/-- A map from lines to numbers, as a function: what is not there is 0. -/
def MapIs (w : World) (g n : Nat) (f : ByteArray → Int) : Prop := ∃ D : DataW Unit, w.ownsMap Tryz.prog 9 (plainElem Tryz.prog 3) g n D ∧ ∀ s : ByteArray, s.size ≤ maxLen → D.atKey (.string s.data.toList) (.lit (.int .i64 0)) = .lit (.int .i64 (f s))
theorem key9 {s : ByteArray} (h : s.size ≤ maxLen) : keyOf Tryz.prog 9 (.string s) = some (.string s.data.toList) := keyOf_string_mk Tryz.underlying9 h
theorem small9 {s : ByteArray} (h : s.size ≤ 1000) : s.size ≤ maxLen := by unfold maxLen; omega
theorem at_inj {a b : Int} (h : (DataW.lit (.int .i64 a) : DataW Unit) = .lit (.int .i64 b)) : a = b := by
 injection h with h
 injection h
theorem isKey9 {s : ByteArray} (h : s.size ≤ maxLen) : WideAt.IsKeyLit (.string s.data.toList) := by
 trivial
theorem MapIs.put_data {w : World} {g n : Nat} {D : DataW Unit} {f : ByteArray → Int} (h : w.ownsMap Tryz.prog 9 (plainElem Tryz.prog 3) g n D) (hf : ∀ s : ByteArray, s.size ≤ maxLen → D.atKey (.string s.data.toList) (.lit (.int .i64 0)) = .lit (.int .i64 (f s)))
  {s : ByteArray} (hs : s.size ≤ maxLen) (v : Int) : ∀ t : ByteArray, t.size ≤ maxLen → (D.put (.string s.data.toList) (.lit (.int .i64 v))).atKey (.string t.data.toList) (.lit (.int .i64 0)) = .lit (.int .i64 (turned f s v t)) := by
 intro t ht
 unfold turned
 by_cases e : s.data.toList = t.data.toList
 ·rw [if_pos e, ← e]
  exact atKey_put_same h.isMap (isKey9 hs) _ _
 ·rw [if_neg e, atKey_put_other (fun h => e (by injection h with h; exact h.symm))]
  exact hf t ht
theorem MapIs.del_data {D : DataW Unit} {f : ByteArray → Int} (hf : ∀ s : ByteArray, s.size ≤ maxLen → D.atKey (.string s.data.toList) (.lit (.int .i64 0)) = .lit (.int .i64 (f s)))
  {s : ByteArray} : ∀ t : ByteArray, t.size ≤ maxLen → (D.del (.string s.data.toList)).atKey (.string t.data.toList) (.lit (.int .i64 0)) = .lit (.int .i64 (turned f s 0 t)) := by
 intro t ht
 unfold turned
 by_cases e : s.data.toList = t.data.toList
 ·rw [if_pos e, ← e]
  exact atKey_del_same _
 ·rw [if_neg e, atKey_del_other (fun h => e (by injection h with h; exact h.symm))]
  exact hf t ht
theorem take_rd (l : List ByteArray) (k : Nat) (h : k < l.length) : l.take (k + 1) = l.take k ++ [l.getD k ByteArray.empty] := by
 rw [List.take_add_one, List.getD_eq_getElem?_getD, List.getElem?_eq_getElem h]
 rfl
set_option maxHeartbeats 4000000 in
set_option maxRecDepth 100000 in
theorem counts_calls (A0 : Option Addr) (c0 : Nat) (l0 : List ByteArray) (w : World) (hr0 : Kd.C Kd.string w A0 l0.length l0) (hm : l0.length ≤ 1000) (hs : ∀ s ∈ l0, s.size ≤ 1000) :
  Calls Tryz.prog 48 #[.slice A0 l0.length c0] w fun e w' => e = .returned (.map (some w.heap.size)) ∧ MapIs w' w.heap.size l0.length (cntB l0) ∧ Below w.heap.size w w' := by
 have HR := Aside0.mk hr0
 have HM := Aside0.mk hm
 have HS := Aside0.mk hs
 clear hr0 hm hs
 have hmm := @run_makeMap Tryz.prog
 have hst : Aside0 (MapIs (w.alloc (.map #[] 0)) w.heap.size 0 (cntB [])) := ⟨.map [], World.ownsMap_made _ _ _ _, fun s _ => rfl⟩
 go_enter Tryz.func48, Tryz.ntmps48
 go_wp2
 go_loopw [9] (fun v wr => ∃ k : Int, v = .int .i64 k ∧ 0 ≤ k ∧ k ≤ l0.length ∧ Aside0 (MapIs wr w.heap.size k.toNat (cntB (l0.take k.toNat))) ∧ Aside0 (Below w.heap.size w wr)) (fun v _ => l0.length - (intOf v).toNat)
 case atStart => exact ⟨0, rfl, by omega, by omega, hst, ⟨(Below.refl _ _).alloc (Nat.le_refl _) _⟩⟩
 case round =>
  obtain ⟨k, rfl, hk0, hk1, hmap, hB⟩ := hrel
  by_cases h1 : k < l0.length
  ·obtain ⟨ad, rfl, hc1⟩ := Kd.at_string HR.out k hk0 h1
   replace hc1 := (hB.out.cell (World.block_lt_of_cell? w _ hc1)).trans hc1
   have hx : (rdOf ByteArray.empty l0 k).size ≤ 1000 := by
    unfold rdOf
    rw [List.getD_eq_getElem?_getD, List.getElem?_eq_getElem (by omega)]
    exact HS.out _ (List.getElem_mem _)
   have hT : l0.take (k.toNat + 1) = l0.take k.toNat ++ [rdOf ByteArray.empty l0 k] := take_rd l0 k.toNat (by omega)
   generalize rdOf ByteArray.empty l0 k = x at *
   obtain ⟨D, hown, hV⟩ := hmap.out
   have HV := Aside0.mk hV
   have HT := Aside0.mk hT
   have HX := Aside0.mk (small9 hx)
   have HB := hB
   have hlen := HM.out
   clear hV hT hx hmap hB
   go_wp2_with (first
    | (at_lookup; refine wpList_lookup_own_int _ rfl _ _ 63 rfl 9 3 .i64 law9 Tryz.underlying63 Tryz.underlying3 (zero3 _) w.heap.size k.toNat _ rfl hown _ _ rfl (key9 HX.out) ?_; intro c hat hwc)
    | (at_mapUpdate; refine wpList_mapUpdate_own _ rfl _ _ _ 63 rfl 9 3 law9 Tryz.underlying63 _ w.heap.size k.toNat _ rfl hown (by unfold maxLen; omega) _ _ _ rfl rfl (key9 HX.out) _ [] (plainElem_int Tryz.underlying3 (wrap64_wf _)) ?_; intro w1 hown1 hgrow1)
    | go_in)
   have hc : c = cntB (l0.take k.toNat) x := at_inj (hat.symm.trans (HV.out x HX.out))
   have hc2 := cntB_le (l0.take k.toNat) x
   rw [List.length_take] at hc2
   have hwr : wrap64 (c + 1) = c + 1 := by unfold wrap64; omega
   refine ⟨⟨k + 1, rfl, by omega, by omega, ⟨?_⟩, ⟨HB.out.grown hgrow1 HB.out.size (fun j hj => by cases hj; exact Nat.le_refl _)⟩⟩, by simp [intOf]; omega⟩
   have e : (k + 1).toNat = k.toNat + 1 := by omega
   rw [e, HT.out, cntB_snoc, ← hc, ← hwr]
   exact ⟨_, hown1, MapIs.put_data hown HV.out HX.out _⟩
  ·have : k = l0.length := by omega
   have H0 := hmap.out
   rw [this, Int.toNat_natCast, List.take_length] at H0
   have HM2 := Aside0.mk H0
   clear H0 hmap
   go_wp2
   go_ret
   exact ⟨rfl, HM2.out, hB.out⟩
theorem keyOf9_inv {key : Value} {kl : Lit} (h : keyOf Tryz.prog 9 key = some kl) : ∃ s : ByteArray, key = .string s ∧ kl = .string s.data.toList ∧ s.size ≤ maxLen := by
 cases key <;> simp [keyOf, Tryz.underlying9, mapKey] at h
 obtain ⟨h1, h2⟩ := h
 exact ⟨_, rfl, h2.symm, h1⟩
theorem grown_of_below9 {w W : World} {row : Option Nat} (h : Below w.heap.size w W) : w.grownBy W row := ⟨h.os, h.tape, h.output, h.size, fun k hk _ => h.block k hk⟩
theorem MapIs.below {w W : World} {g n : Nat} {f : ByteArray → Int} (h : MapIs w g n f) (hb : Below w.heap.size w W) : MapIs W g n f := by
 obtain ⟨D, h1, h2⟩ := h
 exact ⟨D, h1.kept (grown_of_below9 (row := none) hb) (by simp), h2⟩
theorem MapIs.grown {w W : World} {g n : Nat} {f : ByteArray → Int} (h : MapIs w g n f) {row : Option Nat} (hb : w.grownBy W row) (hr : some g ≠ row) : MapIs W g n f := by
 obtain ⟨D, h1, h2⟩ := h
 exact ⟨D, h1.kept hb hr, h2⟩
theorem MapIs.congr {w : World} {g n n' : Nat} {f f' : ByteArray → Int} (h : MapIs w g n f) (hn : n ≤ n') (hf : ∀ s : ByteArray, s.size ≤ maxLen → f s = f' s) : MapIs w g n' f' := by
 obtain ⟨D, h1, h2⟩ := h
 exact ⟨D, h1.mono hn, fun s hs => by rw [← hf s hs]; exact h2 s hs⟩
theorem MapIs.lt {w : World} {g n : Nat} {f : ByteArray → Int} (h : MapIs w g n f) : g < w.heap.size := by
 obtain ⟨D, h1, _⟩ := h
 exact h1.lt
/-- What has been carried over when some keys are still to come. -/
def partly (left : Lit → Bool) (f : ByteArray → Int) (s : ByteArray) : Int := if left (.string s.data.toList) then 0 else f s
theorem partly_step (left : Lit → Bool) {old : List ByteArray} {x : ByteArray} {c : Int} (hc : c = cntB old x) (t : ByteArray) : turned (partly left (cntB old)) x c t = partly (fun z => left z && !z.sameKey (.string x.data.toList)) (cntB old) t := by
 unfold turned partly
 by_cases e : x.data.toList = t.data.toList
 ·have h1 : (Lit.string t.data.toList).sameKey (.string x.data.toList) = true := by rw [e]; exact WideAt.sameKey_self trivial
  rw [if_pos e, hc]
  simp only [h1, Bool.not_true, Bool.and_false, Bool.false_eq_true, if_false]
  unfold cntB
  rw [e]
 ·have h1 : (Lit.string t.data.toList).sameKey (.string x.data.toList) = false := sameKey_ne (fun h => e (by injection h with h; exact h.symm))
  rw [if_neg e]
  simp only [h1, Bool.not_false, Bool.and_true]
set_option maxHeartbeats 4000000 in
set_option maxRecDepth 100000 in
theorem stock_calls (A0 : Option Addr) (c0 : Nat) (old : List ByteArray) (w : World) (hr0 : Kd.C (Kd.slice 9 Kd.string) w A0 1 [old]) (hm : old.length ≤ 1000) (hs : ∀ s ∈ old, s.size ≤ 1000) :
  Calls Tryz.prog 26 #[.slice A0 1 c0] w fun e w' => e = .returned (.map (some w.heap.size)) ∧ MapIs w' w.heap.size 1000 (cntB old) ∧ Below w.heap.size w w' := by
 have HR := Aside0.mk hr0
 have HM := Aside0.mk hm
 have HS := Aside0.mk hs
 clear hr0 hm hs
 have hmm := @run_makeMap Tryz.prog
 have hst : Aside0 (MapIs (w.alloc (.map #[] 0)) w.heap.size 0 (fun _ => 0)) := ⟨.map [], World.ownsMap_made _ _ _ _, fun s _ => rfl⟩
 go_enter Tryz.func26, Tryz.ntmps26
 go_wp2
 go_loopw [11] (fun v wr => ∃ k : Int, v = .int .i64 k ∧ (k = 0 ∨ k = 1) ∧ Aside0 (MapIs wr w.heap.size (if k = 0 then 0 else 1000) (if k = 0 then fun _ => 0 else cntB old)) ∧ Aside0 (Below w.heap.size w wr)) (fun v _ => 1 - (intOf v).toNat)
 case atStart => exact ⟨0, rfl, .inl rfl, hst, ⟨(Below.refl _ _).alloc (Nat.le_refl _) _⟩⟩
 case round =>
  obtain ⟨k, rfl, rfl | rfl, hmap, hB⟩ := hrel
  ·obtain ⟨ad, cs, rfl, hcs, ⟨A1, c1, rfl, hc1, hC1⟩, hcell⟩ := Kd.C_get HR.out [] 0 (by omega) (by omega)
   have hcell0 := hcell 0 _ rfl
   have hC2 : Kd.C Kd.string w A1 old.length old := hC1
   have hcell1 : w.cell? ad = some (.slice A1 old.length c1) := by simpa [Addr.add] using hcell0
   replace hcell1 := (hB.out.cell (World.block_lt_of_cell? w _ hcell1)).trans hcell1
   have HC2 := Aside0.mk (Kd.C_below hC2 hB.out)
   have HMAP : Aside0 (MapIs wr w.heap.size 0 (fun _ => 0)) := ⟨hmap.out⟩
   have HB := hB
   have hlt := hmap.out.lt
   have hadd : ad.add 0 = ad := by simp [Addr.add]
   clear hcell hcell0 hC1 hC2 hcs hB hmap
   go_wp2_with (first
    | (go_at_call 48; refine (counts_calls A1 c1 old _ HC2.out HM.out HS.out).mono ?_; rintro e w2 ⟨rfl, hm2, hb2⟩; have hout := HMAP.out.below hb2; have hbelow := HB.out.trans (hb2.mono HB.out.size); obtain ⟨D, hown, hV⟩ := hm2; have HV := Aside0.mk hV; have HB2 := Aside0.mk hbelow; have HO := Aside0.mk hout; clear hV hbelow hout hb2)
    | (at_range; refine wpList_range_own _ rfl _ 63 rfl 9 3 law9 Tryz.underlying63 _ wr.heap.size old.length D rfl hown ?_; intro w0 hrg0 hg0 hs0)
    | go_in)
   go_frame
   have HO0 : Aside0 (MapIs w0 w.heap.size 0 (fun _ => 0)) := ⟨HO.out.grown hg0 (by simp)⟩
   have HB0 : Aside0 (Below w.heap.size w w0) := ⟨HB2.out.trans ⟨hg0.os, hg0.tape, hg0.output, hg0.size, fun j hj => hg0.block j (Nat.lt_of_lt_of_le hj HB2.out.size) (by simp)⟩⟩
   have hsz2 : wr.heap.size < w2.heap.size := hown.lt
   have hsize : Maps.size D ≤ 1000 := Nat.le_trans hown.size_le HM.out
   have HSTART : Aside0 (∀ s : ByteArray, s.size ≤ maxLen → (0 : Int) = partly (Maps.has D) (cntB old) s) := ⟨fun s hs => by
    unfold partly
    split
    ·rfl
    ·rename_i hh
     have h1 := HV.out s hs
     rw [Maps.atKey_of_not_has (by simpa using hh)] at h1
     exact at_inj h1⟩
   have HLE := Aside0.mk hsize
   clear hown hg0 hs0 hsize HO HB2
   go_loopw [18] (fun _ w' => ∃ left cnt nn, w'.ranges Tryz.prog 9 (plainElem Tryz.prog 3) wr.heap.size w2.heap.size old.length D left cnt ∧ Aside0 (nn + cnt ≤ 1000) ∧ Aside0 (MapIs w' w.heap.size nn (partly left (cntB old))) ∧ Aside0 (Below w.heap.size w w')) (fun _ w' => w'.rangeLeft wr.heap.size w2.heap.size)
   case atStart => exact ⟨_, _, 0, hrg0, ⟨by have := HLE.out; omega⟩, ⟨HO0.out.congr (Nat.le_refl _) HSTART.out⟩, HB0⟩
   case round =>
    obtain ⟨left, cnt, nn, hrg, hn, hmo, hbb⟩ := hrel
    clear hrg0
    go_wp2_with (first
     | (at_next; refine wpList_next_ranges _ rfl _ rfl 9 law9 (plainElem Tryz.prog 3) Value.string (Value.int .i64) (fun key kl hk => (keyOf9_inv hk).imp fun _ h => h.1) (fun v y hv => (plainElem_int_inv Tryz.underlying3 hv).imp fun _ h => h.1) _ w2.heap.size old.length D _ _ rfl hrg ?_ ?_)
     | go_in)
    ·intro hc0 hl0
     have HE : Aside0 (MapIs wr w.heap.size 1000 (cntB old)) := ⟨hmo.out.congr (by have := hn.out; omega) (fun s _ => by unfold partly; rw [hl0]; rfl)⟩
     clear hrg hn hmo hl0 hc0
     go_wp2
     go_roundw
     case rel => exact ⟨1, rfl, .inr rfl, HE, hbb⟩
     case measure => simp [intOf]
    ·intro x c kl yd yp w4 cnt1 hkey hlk hv hat hrg1 hlt1 hg1 hs1 hen
     clear hs1
     obtain ⟨s, ex, rfl, hsz⟩ := keyOf9_inv hkey
     cases ex
     obtain ⟨c', ec, ey, hwc⟩ := plainElem_int_inv Tryz.underlying3 hv
     cases ec
     have hcv : c = cntB old x := by
      have h1 := hat (.lit (.int .i64 0))
      rw [HV.out x hsz] at h1
      have h2 : yd = .lit (.int .i64 c) := by injection ey
      rw [h2] at h1
      exact (at_inj h1).symm
     have hc0 : 0 ≤ c := by rw [hcv]; exact (cntB_le old x).1
     have HX : Aside0 (x.size ≤ maxLen) := ⟨hsz⟩
     have hmo1 := hmo.out.grown hg1 (by simp; omega)
     obtain ⟨D1, hown1, hV1⟩ := hmo1
     have HV1 := Aside0.mk hV1
     have HCV := Aside0.mk hcv
     have HLK := Aside0.mk hlk
     have HRG := Aside0.mk hrg
     have HRG1 := Aside0.mk hrg1
     have HLT1 := Aside0.mk hlt1
     have HG1 := Aside0.mk hg1
     have hnn : nn < maxLen := by have := hn.out; unfold maxLen; omega
     clear hV1 hcv hlk hrg hrg1 hlt1 hg1 hkey hv hat ey
     go_wp2_with (first
      | (at_lookup; refine wpList_lookup_own_int _ rfl _ _ 63 rfl 9 3 .i64 law9 Tryz.underlying63 Tryz.underlying3 (zero3 _) w.heap.size nn _ rfl hown1 _ _ rfl (key9 HX.out) ?_; intro c5 hat5 hwc5)
      | (at_mapUpdate; refine wpList_mapUpdate_own _ rfl _ _ _ 63 rfl 9 3 law9 Tryz.underlying63 _ w.heap.size nn _ rfl hown1 hnn _ _ _ rfl rfl (key9 HX.out) _ [] (plainElem_int Tryz.underlying3 (by first | (rw [Int.max_def]; split <;> assumption) | (split <;> assumption))) ?_; intro w5 hown5 hgrow5)
      | go_in)
     have hc5 : c5 = 0 := by
      have h1 := at_inj (hat5.symm.trans (HV1.out x HX.out))
      rw [h1]
      unfold partly
      rw [HLK.out]
      rfl
     have hval : max c5 c = c := by omega
     rw [hval] at hown5
     have hrg5 := HRG1.out.kept hgrow5 (by simp; omega) (by simp; omega)
     have hB4 := hbb.out.grown HG1.out hbb.out.size (fun j hj => by cases hj; omega)
     have hB5 := hB4.grown hgrow5 hB4.size (fun j hj => by cases hj; exact Nat.le_refl _)
     go_roundw
     case rel =>
      exact ⟨_, _, _, _, _, _, _, _, _, _, _, _, _, _, ⟨_, cnt1, nn + 1, hrg5, ⟨by have := hn.out; have := HLT1.out; omega⟩, ⟨MapIs.congr ⟨_, hown5, MapIs.put_data hown1 HV1.out HX.out c⟩ (Nat.le_refl _) (fun t ht => partly_step left HCV.out t)⟩, ⟨hB5⟩⟩, rfl⟩
     case measure => rw [hrg5.left_eq, HRG.out.left_eq]; exact HLT1.out
  ·have HM2 := Aside0.mk hmap.out
   clear hmap
   go_wp2
   go_ret
   exact ⟨rfl, HM2.out, hB.out⟩
/-- How many lines of a page are not among those that are there. -/
def freshN (f : ByteArray → Int) : List ByteArray → Int
 | [] => 0
 | s :: ss => if f s = 0 then 1 + freshN f ss else freshN (turned f s (f s - 1)) ss
def allShort (l : List ByteArray) : Bool := l.all fun s => decide (s.size ≤ 1000)
def proof_Fresh.f (l0 : List (List ByteArray)) (l1 : List ByteArray) : Option (Int × Int) :=
 match l0 with
 | [old] => if old.length ≤ 1000 ∧ l1.length ≤ 1000 ∧ allShort old = true ∧ allShort l1 = true then
   (proof_asked.f 40 [old] l1).bind fun e => if e = 0 then some (freshN (cntB old) l1, 0) else none else none
 | _ => none
theorem turned_bound {f : ByteArray → Int} {s : ByteArray} {v : Int} {N : Int} (h : ∀ t, 0 ≤ f t ∧ f t ≤ N) (hv : 0 ≤ v ∧ v ≤ N) : ∀ t, 0 ≤ turned f s v t ∧ turned f s v t ≤ N := by
 intro t
 unfold turned
 split
 ·exact hv
 ·exact h t
set_option maxHeartbeats 4000000 in
set_option maxRecDepth 100000 in
theorem proof_Fresh.calls (A0 : Option Addr) (c0 : Nat) (l0 : List (List ByteArray)) (A1 : Option Addr) (c1 : Nat) (l1 : List ByteArray) (r1 : Int) (r2 : Int) (w : World) (hr0 : Kd.C (Kd.slice 9 Kd.string) w A0 l0.length l0) (hc0 : l0.length ≤ c0) (hr1 : Kd.C Kd.string w A1 l1.length l1) (hc1 : l1.length ≤ c1) (h : proof_Fresh.f l0 l1 = some (r1, r2)) :
  Calls Tryz.prog 11 #[.slice A0 l0.length c0, .slice A1 l1.length c1] w fun e w' => e = .returned (.tuple #[.int .i64 r1, .int .i64 r2]) ∧ Below w.heap.size w w' := by
 unfold proof_Fresh.f at h
 split at h
 case h_2 => cases h
 rename_i old
 split at h
 case isFalse => cases h
 rename_i hb
 obtain ⟨e, he, h⟩ := Option.bind_eq_some_iff.1 h
 split at h
 case isFalse => cases h
 rename_i he0
 subst he0
 injection h with h
 injection h with h1 h2
 subst h1 h2
 have HA := Aside0.mk he
 have HB := Aside0.mk hb
 have HR0 := Aside0.mk hr0
 have HR1 := Aside0.mk hr1
 have HC0 := Aside0.mk hc0
 have HC1 := Aside0.mk hc1
 clear he hb hr0 hr1 hc0 hc1
 go_enter Tryz.func11, Tryz.ntmps11
 go_wp2_with (first
  | (go_at_call 25; refine (proof_asked.calls 40 A0 c0 [old] A1 c1 l1 0 _ HR0.out HC0.out HR1.out HC1.out HA.out).mono ?_; rintro e w1 ⟨rfl, hb1⟩; have HB1 := Aside0.mk hb1; have HR2 := Aside0.mk (Kd.C_below HR0.out hb1); have HR3 := Aside0.mk (Kd.C_below HR1.out hb1); clear hb1)
  | (go_at_call 26; refine (stock_calls A0 c0 old _ HR2.out HB.out.1 (fun s hs => of_decide_eq_true (List.all_eq_true.1 HB.out.2.2.1 s hs))).mono ?_; rintro e w2 ⟨rfl, hm2, hb2⟩; have HM2 := Aside0.mk hm2; have HB2 := Aside0.mk hb2; have HR4 := Aside0.mk (Kd.C_below HR3.out hb2); clear hm2 hb2)
  | go_in)
 have hout : Below w.heap.size w w2 := HB1.out.trans (HB2.out.mono HB1.out.size)
 have hglt : w.heap.size ≤ w1.heap.size := HB1.out.size
 have hstart : Aside0 (MapIs w2 w1.heap.size 1000 (cntB old)) := HM2
 have HOUT := Aside0.mk hout
 clear hout
 have hcb := fun t => cntB_le old t
 have HCB : Aside0 (∀ t, 0 ≤ cntB old t ∧ cntB old t ≤ 1000) := ⟨fun t => by have := cntB_le old t; have := HB.out.1; omega⟩
 clear hcb
 obtain ⟨G, hG⟩ : ∃ G, w1.heap.size = G := ⟨_, rfl⟩
 rw [hG] at hstart hglt ⊢
 go_loopw [7, 21] (fun v7 v21 wr => ∃ (k n : Int) (f : ByteArray → Int) (q : Nat), v21 = .int .i64 k ∧ v7 = .int .i64 n ∧ 0 ≤ k ∧ k ≤ l1.length ∧ 0 ≤ n ∧ n ≤ k ∧ Aside0 (n + freshN f (l1.drop k.toNat) = freshN (cntB old) l1) ∧ Aside0 (∀ t, 0 ≤ f t ∧ f t ≤ 1000) ∧ Aside0 (q ≤ 1000 + k.toNat ∧ MapIs wr G q f) ∧ Aside0 (Below w.heap.size w wr)) (fun _ v21 _ => l1.length - (intOf v21).toNat)
 case atStart => exact ⟨0, 0, cntB old, 1000, rfl, rfl, by omega, by omega, by omega, by omega, ⟨by simp⟩, HCB, ⟨by omega, hstart.out⟩, HOUT⟩
 case round =>
  obtain ⟨k, n, f, q, rfl, rfl, hk0, hk1, hn0, hn1, hF, hfb, hmap, hB⟩ := hrel
  by_cases h1 : k < l1.length
  ·obtain ⟨ad, rfl, hc1⟩ := Kd.at_string HR1.out k hk0 h1
   replace hc1 := (hB.out.cell (World.block_lt_of_cell? w _ hc1)).trans hc1
   have hx : (rdOf ByteArray.empty l1 k).size ≤ maxLen := by
    refine small9 (of_decide_eq_true (List.all_eq_true.1 HB.out.2.2.2 _ ?_))
    unfold rdOf
    rw [List.getD_eq_getElem?_getD, List.getElem?_eq_getElem (by omega)]
    exact List.getElem_mem _
   have hT : l1.drop k.toNat = rdOf ByteArray.empty l1 k :: l1.drop (k.toNat + 1) := by
    rw [List.drop_eq_getElem_cons (by omega)]
    unfold rdOf
    rw [List.getD_eq_getElem?_getD, List.getElem?_eq_getElem (by omega)]
    rfl
   generalize rdOf ByteArray.empty l1 k = x at *
   have hF2 := hF.out
   rw [hT] at hF2
   simp only [freshN] at hF2
   have HF := Aside0.mk hF2
   obtain ⟨hq, D, hown, hV⟩ := hmap.out
   have HV := Aside0.mk hV
   have HX := Aside0.mk hx
   have hlen := HB.out.2.1
   have HQ := Aside0.mk hq
   have hqm : q < maxLen := by unfold maxLen; omega
   have hfx := hfb.out x
   clear hV hT hx hmap hF hF2 hq hG
   have e1 : (k + 1).toNat = k.toNat + 1 := by omega
   go_wp2_with (first
    | (at_lookup; refine wpList_lookup_own_int _ rfl _ _ 63 rfl 9 3 .i64 law9 Tryz.underlying63 Tryz.underlying3 (zero3 _) G q _ rfl hown _ _ rfl (key9 HX.out) ?_; intro c hat hwc; have hc := at_inj (hat.symm.trans (HV.out x HX.out)); clear hat)
    | (at_delete; refine wpList_delete_own _ rfl _ _ 63 9 rfl 3 law9 Tryz.underlying63 _ G q _ rfl hown _ _ rfl (key9 HX.out) ?_; intro w1 hown1 hgrow1)
    | (at_mapUpdate; refine wpList_mapUpdate_own _ rfl _ _ _ 63 rfl 9 3 law9 Tryz.underlying63 _ G q _ rfl hown hqm _ _ _ rfl rfl (key9 HX.out) _ [] (plainElem_int Tryz.underlying3 (by first | exact wrap64_wf _ | exact WalkArith.wf_i64 (by omega))) ?_; intro w1 hown1 hgrow1)
    | go_in)
   ·have h0 : f x = 0 := by simpa using (by assumption : (f x == 0) = true)
    have HF2 := HF.out
    rw [if_pos h0] at HF2
    refine ⟨⟨k + 1, n + 1, f, q, rfl, rfl, by omega, by omega, by omega, by omega, ⟨by rw [e1]; omega⟩, hfb, ⟨by have := HQ.out; omega, _, hown, HV.out⟩, hB⟩, by simp [intOf]; omega⟩
   ·have h0 : f x = 1 := by simpa using (by assumption : (f x == 1) = true)
    have HF2 := HF.out
    rw [if_neg (by omega)] at HF2
    refine ⟨⟨k + 1, n, turned f x (f x - 1), q, rfl, rfl, by omega, by omega, by omega, by omega, ⟨by rw [e1]; exact HF2⟩, ⟨turned_bound hfb.out (by omega)⟩, ⟨by have := HQ.out; omega, _, hown1, ?_⟩, ⟨hB.out.grown hgrow1.grown hB.out.size (fun j hj => by cases hj; exact hglt)⟩⟩, by simp [intOf]; omega⟩
    have : f x - 1 = 0 := by omega
    rw [this]
    exact MapIs.del_data HV.out
   ·have h0 : ¬ f x = 0 := by
     have h2 : (f x == 0) = false := by assumption
     simpa using h2
    have HF2 := HF.out
    rw [if_neg h0] at HF2
    refine ⟨⟨k + 1, n, turned f x (f x - 1), q + 1, rfl, rfl, by omega, by omega, by omega, by omega, ⟨by rw [e1]; exact HF2⟩, ⟨turned_bound hfb.out (by omega)⟩, ⟨by have := HQ.out; omega, _, hown1, MapIs.put_data hown HV.out HX.out _⟩, ⟨hB.out.grown hgrow1 hB.out.size (fun j hj => by cases hj; exact hglt)⟩⟩, by simp [intOf]; omega⟩
  ·have hke : k = l1.length := by omega
   have HF := hF.out
   rw [hke, Int.toNat_natCast, List.drop_length] at HF
   have HF2 : Aside0 (n = freshN (cntB old) l1) := ⟨by simpa [freshN] using HF⟩
   clear HF hF hmap hke
   go_wp2
   go_ret2
   exact ⟨by rw [← HF2.out]; rfl, hB.out⟩
end Go.Proofs.YteoknahabkoknaaGreatDoor.P
namespace Go.Proofs.YteoknahabkoknaaGreatDoor.P
open Go.RowKit Go.Proofs.YteoknahabkoknaaGreatDoorW.PrintWords Go.Proofs.YteoknahabkoknaaGreatDoorW.PrintLast
set_option linter.unusedVariables false
set_option linter.unusedSimpArgs false
/- One line more, one line less: the only mark; how many lines are fresh. -/
theorem Scr.same : ∀ (q : List ByteArray) (a : Int), Scr q a q []
 | [], a => .nil a
 | _ :: q, a => .keep (Scr.same q (a + 1))
theorem Scr.puts (x : ByteArray) (q : List ByteArray) : ∀ (p : List ByteArray) (a : Int), Scr (p ++ q) a (p ++ x :: q) [⟨1, a + p.length, x⟩]
 | [], a => by simpa using Scr.put (Scr.same q a)
 | y :: p, a => by
  have := Scr.puts x q p (a + 1)
  rw [show a + 1 + (p.length : Int) = a + ((y :: p).length : Int) by rw [List.length_cons]; omega] at this
  exact .keep this
theorem Scr.outs (x : ByteArray) (q : List ByteArray) : ∀ (p : List ByteArray) (a : Int), Scr (p ++ x :: q) a (p ++ q) [⟨3, a + p.length, ⟨#[]⟩⟩]
 | [], a => by simpa using Scr.out (o := x) (Scr.same q (a + 1))
 | y :: p, a => by
  have := Scr.outs x q p (a + 1)
  rw [show a + 1 + (p.length : Int) = a + ((y :: p).length : Int) by rw [List.length_cons]; omega] at this
  exact .keep this
theorem Scr.len {o p : List ByteArray} {a : Int} {ms : List S42} (h : Scr o a p ms) : (p.length : Int) ≤ o.length + costM ms := by
 induction h with
 | nil => simp [costM]
 | put h ih => simp [costM] at ih ⊢; omega
 | out h ih => simp [costM] at ih ⊢; omega
 | set h ih => simp [costM] at ih ⊢; omega
 | keep h ih => simp at ih ⊢; omega
theorem Scr.none {o p : List ByteArray} {a : Int} {ms : List S42} (h : Scr o a p ms) (hm : ms = []) : p = o := by
 induction h with
 | nil => rfl
 | put h ih => cases hm
 | out h ih => cases hm
 | set h ih => cases hm
 | keep h ih => rw [ih hm]
/-- One mark. -/
def OneMark (o p : List ByteArray) (a : Int) (m : S42) : Prop :=
 (m.f0 = 1 ∧ ∃ p' q', o = p' ++ q' ∧ p = p' ++ m.f2 :: q' ∧ m.f1 = a + p'.length) ∨ (m.f0 = 3 ∧ m.f2 = ⟨#[]⟩ ∧ ∃ p' x q', o = p' ++ x :: q' ∧ p = p' ++ q' ∧ m.f1 = a + p'.length) ∨ (m.f0 = 2 ∧ o.length = p.length)
theorem Scr.one {o p : List ByteArray} {a : Int} {ms : List S42} (h : Scr o a p ms) : ∀ m, ms = [m] → OneMark o p a m := by
 induction h with
 | nil => intro m h; cases h
 | @put o a p ps ms h ih =>
  intro m hm
  injection hm with h1 h2
  subst h1
  obtain rfl := Scr.none h h2
  exact .inl ⟨rfl, [], _, rfl, rfl, by simp⟩
 | @out o os a ps ms h ih =>
  intro m hm
  injection hm with h1 h2
  subst h1
  obtain rfl := Scr.none h h2
  exact .inr (.inl ⟨rfl, rfl, [], o, _, rfl, rfl, by simp⟩)
 | @set o os a p ps ms h ih =>
  intro m hm
  injection hm with h1 h2
  subst h1
  obtain rfl := Scr.none h h2
  exact .inr (.inr ⟨rfl, by simp⟩)
 | @keep o os a ps ms h ih =>
  intro m hm
  rcases ih m hm with ⟨h1, p', q', h2, h3, h4⟩ | ⟨h1, h0, p', x, q', h2, h3, h4⟩ | ⟨h1, h2⟩
  ·exact .inl ⟨h1, o :: p', q', by simp [h2], by simp [h3], by simp; omega⟩
  ·exact .inr (.inl ⟨h1, h0, o :: p', x, q', by simp [h2], by simp [h3], by simp; omega⟩)
  ·exact .inr (.inr ⟨h1, by simp [h2]⟩)
theorem diff_some {o p : List ByteArray} (ho : o.length ≤ 6) (hp : p.length ≤ 6) : ∃ r : LM, proof_diff.f o p = some r.2 ∧ Scr o 0 p r.2 ∧ r.1 = costM r.2 ∧ ∀ ms, Scr o 0 p ms → Lex r (costM ms, ms) := by
 obtain ⟨r, hr, hs, hc, _, hb⟩ := bestL_best o 0 p (by omega)
 refine ⟨r, ?_, hs, hc, hb⟩
 unfold proof_diff.f
 rw [if_pos (by omega), hr]
 rfl
/-- A line that comes. -/
theorem diff_put (p q : List ByteArray) (x : ByteArray) (h : p.length + q.length ≤ 5) : ∃ m : S42, proof_diff.f (p ++ q) (p ++ x :: q) = some [m] ∧ m.f0 = 1 ∧ 0 ≤ m.f1 ∧ m.f1 ≤ (p ++ q).length ∧ ∃ p' q', p ++ q = p' ++ q' ∧ p ++ x :: q = p' ++ m.f2 :: q' := by
 obtain ⟨r, hr, hs, hc, hb⟩ := diff_some (o := p ++ q) (p := p ++ x :: q) (by simp; omega) (by simp; omega)
 have h1 := hb _ (Scr.puts x q p 0)
 have h2 := Scr.len hs
 have h3 := costM_bound r.2
 simp [Lex, costM] at h1 h2
 obtain ⟨m, hm⟩ : ∃ m, r.2 = [m] := by
  match hms : r.2 with
  | [] => rw [hms] at hc; simp [costM] at hc; rw [hms] at h2; simp [costM] at h2; omega
  | [m] => exact ⟨m, rfl⟩
  | a :: b :: c => rw [hms] at h1; simp at h1; rw [hms] at hc h2; omega
 rw [hm] at hr hs hc h2
 simp [costM] at hc h2
 rcases Scr.one hs m rfl with ⟨e1, p', q', e2, e3, e4⟩ | ⟨e1, _⟩ | ⟨e1, e2⟩
 ·refine ⟨m, hr, e1, by omega, by rw [e2]; simp; omega, p', q', e2, e3⟩
 ·rw [if_pos e1] at h2
  omega
 ·simp at e2
/-- A line that goes. -/
theorem diff_out (p q : List ByteArray) (x : ByteArray) (h : p.length + q.length ≤ 5) : ∃ b : S42, proof_diff.f (p ++ x :: q) (p ++ q) = some [b] ∧ b.f0 = 3 ∧ b.f2 = ⟨#[]⟩ ∧ 0 ≤ b.f1 ∧ b.f1 < (p ++ x :: q).length := by
 obtain ⟨r, hr, hs, hc, hb⟩ := diff_some (o := p ++ x :: q) (p := p ++ q) (by simp; omega) (by simp; omega)
 have h1 := hb _ (Scr.outs x q p 0)
 have h3 := costM_bound r.2
 simp [Lex, costM] at h1
 obtain ⟨m, hm⟩ : ∃ m, r.2 = [m] := by
  match hms : r.2 with
  | [] =>
   rw [hms] at hs
   have := congrArg List.length (Scr.none hs rfl)
   simp at this
  | [m] => exact ⟨m, rfl⟩
  | a :: b :: c => rw [hms] at h1; simp at h1; rw [hms] at hc h3; omega
 rw [hm] at hr hs hc
 simp [costM] at hc
 rcases Scr.one hs m rfl with ⟨e1, p', q', e2, e3, e4⟩ | ⟨e1, e0, p', y, q', e2, e3, e4⟩ | ⟨e1, e2⟩
 ·have h4 := congrArg List.length e2
  have h5 := congrArg List.length e3
  simp at h4 h5
  omega
 ·refine ⟨m, hr, e1, e0, by omega, by rw [e2]; simp; omega⟩
 ·simp at e2
theorem turned_cons (s : ByteArray) (r : List ByteArray) : turned (cntB (s :: r)) s (cntB (s :: r) s - 1) = cntB r := by
 funext t
 unfold turned cntB
 by_cases h : s.data.toList = t.data.toList
 ·rw [if_pos h, h]
  have h2 : s.data = t.data := by simpa using h
  simp [h2]
 ·have h2 : ¬ s.data = t.data := by simpa using h
  rw [if_neg h]
  simp [h2]
theorem cnt_head (s : ByteArray) (r : List ByteArray) : 1 ≤ cntB (s :: r) s := by
 unfold cntB
 simp
 omega
theorem fresh_same : ∀ q : List ByteArray, freshN (cntB q) q = 0
 | [] => rfl
 | s :: q => by
  have := cnt_head s q
  rw [freshN, if_neg (by omega), turned_cons]
  exact fresh_same q
theorem cnt_cons_other {s t : ByteArray} (r : List ByteArray) (h : ¬ s.data.toList = t.data.toList) : cntB (s :: r) t = cntB r t := by
 have h2 : ¬ s.data = t.data := by simpa using h
 unfold cntB
 simp [h2]
theorem cnt_cons_same {s t : ByteArray} (r : List ByteArray) (h : s.data.toList = t.data.toList) : cntB (s :: r) t = cntB r t + 1 := by
 have h2 : s.data = t.data := by simpa using h
 unfold cntB
 simp [h2]
theorem fresh_less (x : ByteArray) : ∀ q : List ByteArray, 1 ≤ cntB q x → freshN (turned (cntB q) x (cntB q x - 1)) q = 1
 | [], h => by simp [cntB] at h
 | s :: q, h => by
  by_cases e : s.data.toList = x.data.toList
  ·have hf : turned (cntB (s :: q)) x (cntB (s :: q) x - 1) = cntB q := by
    funext t
    unfold turned
    split
    ·rename_i e2
     rw [cnt_cons_same q e]
     unfold cntB
     rw [e2]
     omega
    ·rename_i e2
     exact cnt_cons_other q (fun h => e2 (e.symm.trans h))
   rw [hf, freshN]
   by_cases h0 : cntB q s = 0
   ·rw [if_pos h0, fresh_same]
    rfl
   ·rw [if_neg h0]
    have := cntB_le q s
    exact fresh_less s q (by omega)
  ·have hx : cntB (s :: q) x = cntB q x := cnt_cons_other q e
   have hne : ¬ x.data.toList = s.data.toList := fun h => e h.symm
   have hs : turned (cntB (s :: q)) x (cntB (s :: q) x - 1) s = cntB (s :: q) s := by
    unfold turned
    rw [if_neg hne]
   have := cnt_head s q
   rw [freshN, hs, if_neg (by omega)]
   have hf : turned (turned (cntB (s :: q)) x (cntB (s :: q) x - 1)) s (cntB (s :: q) s - 1) = turned (cntB q) x (cntB q x - 1) := by
    funext t
    have h2 := congrFun (turned_cons s q) t
    unfold turned at h2 ⊢
    by_cases e1 : s.data.toList = t.data.toList
    ·have e3 : ¬ x.data.toList = t.data.toList := fun h => e (e1.trans h.symm)
     rw [if_pos e1] at h2 ⊢
     rw [if_neg e3]
     exact h2
    ·rw [if_neg e1] at h2 ⊢
     by_cases e3 : x.data.toList = t.data.toList
     ·rw [if_pos e3, if_pos e3, hx]
     ·rw [if_neg e3, if_neg e3]
      exact h2
   rw [hf]
   exact fresh_less x q (by omega)
theorem fresh_one (x : ByteArray) (q : List ByteArray) : ∀ p : List ByteArray, freshN (cntB (p ++ q)) (p ++ x :: q) = 1
 | [] => by
  simp only [List.nil_append]
  rw [freshN]
  by_cases h0 : cntB q x = 0
  ·rw [if_pos h0, fresh_same]
   rfl
  ·rw [if_neg h0]
   have := cntB_le q x
   exact fresh_less x q (by omega)
 | s :: p => by
  have := cnt_head s (p ++ q)
  simp only [List.cons_append]
  rw [freshN, if_neg (by omega), turned_cons]
  exact fresh_one x q p
end Go.Proofs.YteoknahabkoknaaGreatDoor.P
namespace Go.Proofs.YteoknahabkoknaaGreatDoor.P
open Go.RowKit Go.Proofs.YteoknahabkoknaaGreatDoorW.PrintWords Go.Proofs.YteoknahabkoknaaGreatDoorW.PrintLast
set_option linter.unusedVariables false
set_option linter.unusedSimpArgs false
/- The functions of package proof at a page and the page with one line more. -/
theorem wrapS {i : Int} (h0 : 0 ≤ i) (h1 : i ≤ 1000) : wrap64 (i + 1) = i + 1 := by unfold wrap64; omega
theorem rd_mem (l : List ByteArray) (i : Int) (h0 : 0 ≤ i) (h1 : i < l.length) : rdOf ByteArray.empty l i ∈ l := by
 unfold rdOf
 rw [List.getD_eq_getElem?_getD, List.getElem?_eq_getElem (by omega)]
 exact List.getElem_mem _
/-- A page that is right. -/
def PageOk (l : List ByteArray) : Prop := l.length ≤ 6 ∧ ∀ s ∈ l, proof_lineError.f s = some 0
theorem check_loop (l : List ByteArray) (hl : PageOk l) : ∀ (m k : Nat) (i : Int), 0 ≤ i → (l.length : Int) - i = m → m < k → proof_Check.l0 k l (l.length : Int) i = some 0 := by
 intro m
 induction m with
 | zero =>
  intro k i h0 hm hk
  obtain ⟨k, rfl⟩ : ∃ q, k = q + 1 := ⟨k - 1, by omega⟩
  rw [proof_Check.l0, if_neg (by omega)]
 | succ m ih =>
  intro k i h0 hm hk
  obtain ⟨k, rfl⟩ : ∃ q, k = q + 1 := ⟨k - 1, by omega⟩
  have := hl.1
  rw [proof_Check.l0, if_pos (by omega), if_pos h0, if_pos (by omega), hl.2 _ (rd_mem l i h0 (by omega)), Option.bind_some, if_pos rfl, wrapS h0 (by omega)]
  exact ih k (i + 1) (by omega) (by omega) (by omega)
theorem check_ok {l : List ByteArray} (hl : PageOk l) {k : Nat} (hk : 10 ≤ k) : proof_Check.f k l = some 0 := by
 have := hl.1
 unfold proof_Check.f
 rw [if_neg (by omega)]
 exact check_loop l hl l.length k 0 (by omega) (by omega) (by omega)
/-- A mark that is right for a page. -/
def MarkOk (l : List ByteArray) (m : S42) : Prop := (m.f0 = 1 ∧ 0 ≤ m.f1 ∧ m.f1 ≤ l.length ∧ proof_lineError.f m.f2 = some 0) ∨ (m.f0 = 3 ∧ m.f2 = ⟨#[]⟩ ∧ 0 ≤ m.f1 ∧ m.f1 < l.length)
theorem text_ok {l : List ByteArray} {m : S42} (h : MarkOk l m) : proof_textError.f m.f0 m.f1 m.f2 = some 0 := by
 unfold proof_textError.f
 rcases h with ⟨e, _, _, h⟩ | ⟨e, h, _, _⟩
 ·rw [if_neg (by omega), h]
  rfl
 ·rw [if_pos e, h]
  kernel_rfl
theorem marks_ok {l : List ByteArray} {m : S42} (hl : l.length ≤ 6) (h : MarkOk l m) {k : Nat} (hk : 10 ≤ k) : proof_marksError.f k l [m] = some 0 := by
 obtain ⟨k, rfl⟩ : ∃ q, k = q + 5 := ⟨k - 5, by omega⟩
 unfold proof_marksError.f
 have e1 : ((([m] : List S42).length : Nat) : Int) = 1 := rfl
 have e2 : rd_T42 [m] 0 = m := rfl
 have hend : proof_marksError.l0 (k + 1) l [m] [m] 1 (wrap64 (0 + 1)) = some 0 := by
  rw [show wrap64 (0 + 1) = 1 by kernel_rfl, proof_marksError.l0, if_neg (by omega)]
 have h3 : ∀ x, x = false → proof_marksError.j3 (k + 2) l [m] 0 [m] 1 0 x m.f0 m.f1 m.f2 = some 0 := by
  rintro x rfl
  rw [proof_marksError.j3, if_neg (by simp), text_ok h, Option.bind_some, if_pos rfl, if_pos rfl]
  exact hend
 rw [e1, if_neg (by omega), proof_marksError.l0, if_pos (by omega), if_pos (by omega), e1, if_pos (by omega), e2]
 rcases h with ⟨e, a0, a1, _⟩ | ⟨e, _, a0, a1⟩
 ·rw [if_neg (by omega), proof_marksError.j1, if_neg (by simp; omega), if_pos e, proof_marksError.j2, if_neg (by omega)]
  exact h3 _ (by rw [decide_eq_false_iff_not]; unfold wrap64; omega)
 ·rw [if_neg (by omega), proof_marksError.j1, if_neg (by simp; omega), if_neg (by omega), proof_marksError.j2, if_neg (by omega)]
  exact h3 _ (by rw [decide_eq_false_iff_not]; unfold wrap64; omega)
theorem marks_nil (l : List ByteArray) {k : Nat} (hk : 10 ≤ k) : proof_marksError.f k l [] = some 0 := by
 obtain ⟨k, rfl⟩ : ∃ q, k = q + 1 := ⟨k - 1, by omega⟩
 unfold proof_marksError.f
 rw [if_neg (by simp), proof_marksError.l0, if_neg (by simp)]
theorem checked_ok {l : List ByteArray} {m : S42} (hl : PageOk l) (h : MarkOk l m) {k : Nat} (hk : 10 ≤ k) : proof_checked.f k l [m] = some 0 := by
 unfold proof_checked.f
 rw [check_ok hl hk, Option.bind_some, if_pos rfl, marks_ok hl.1 h hk]
 rfl
theorem cost_ok {l : List ByteArray} {m : S42} (hl : PageOk l) (h : MarkOk l m) {k : Nat} (hk : 10 ≤ k) : proof_Cost.f k l [m] = some (if m.f0 = 3 then 0 else 1, 0) := by
 unfold proof_Cost.f
 rw [checked_ok hl h hk, Option.bind_some, if_pos rfl]
 obtain ⟨k, rfl⟩ : ∃ q, k = q + 2 := ⟨k - 2, by omega⟩
 have e1 : ((([m] : List S42).length : Nat) : Int) = 1 := rfl
 have e2 : rd_T42 [m] 0 = m := rfl
 rw [e1, proof_Cost.l0, if_pos (by omega), if_pos (by omega), e1, if_pos (by omega), e2, show wrap64 (0 + 1) = 1 by kernel_rfl]
 split
 ·rw [proof_Cost.l0, if_neg (by omega)]
 ·rw [proof_Cost.l0, if_neg (by omega)]
theorem Diff_ok {o p : List ByteArray} {ms : List S42} (ho : PageOk o) (hp : PageOk p) (h : proof_diff.f o p = some ms) {k : Nat} (hk : 10 ≤ k) : proof_Diff.f k o p = some (ms, 0) := by
 unfold proof_Diff.f
 rw [check_ok ho hk, Option.bind_some, if_pos rfl, check_ok hp hk, Option.bind_some, if_pos rfl, h]
 rfl
theorem years_loop (l : List (List ByteArray)) (hn : l.length ≤ 4) (hl : ∀ p ∈ l, PageOk p) : ∀ (m k : Nat) (i : Int), 0 ≤ i → (l.length : Int) - i = m → m + 10 < k → proof_yearsError.l0 k l (l.length : Int) i = some 0 := by
 intro m
 induction m with
 | zero =>
  intro k i h0 hm hk
  obtain ⟨k, rfl⟩ : ∃ q, k = q + 1 := ⟨k - 1, by omega⟩
  rw [proof_yearsError.l0, if_neg (by omega)]
 | succ m ih =>
  intro k i h0 hm hk
  obtain ⟨k, rfl⟩ : ∃ q, k = q + 1 := ⟨k - 1, by omega⟩
  have hmem : rd_L7 l i ∈ l := by
   unfold rd_L7
   rw [List.getD_eq_getElem?_getD, List.getElem?_eq_getElem (by omega)]
   exact List.getElem_mem _
  rw [proof_yearsError.l0, if_pos (by omega), if_pos h0, if_pos (by omega), check_ok (hl _ hmem) (by omega), Option.bind_some, if_pos rfl, wrapS h0 (by omega)]
  exact ih k (i + 1) (by omega) (by omega) (by omega)
theorem years_ok {l : List (List ByteArray)} (hn : l.length ≤ 4) (hl : ∀ p ∈ l, PageOk p) {k : Nat} (hk : 20 ≤ k) : proof_yearsError.f k l = some 0 := by
 unfold proof_yearsError.f
 rw [if_neg (by omega)]
 exact years_loop l hn hl l.length k 0 (by omega) (by omega) (by omega)
theorem asked_ok {l : List (List ByteArray)} {p : List ByteArray} (hn : l.length ≤ 4) (hl : ∀ p ∈ l, PageOk p) (hp : PageOk p) {k : Nat} (hk : 20 ≤ k) : proof_asked.f k l p = some 0 := by
 unfold proof_asked.f
 rw [years_ok hn hl hk, Option.bind_some, if_pos rfl, check_ok hp (by omega)]
 rfl
theorem line_size {s : ByteArray} (h : proof_lineError.f s = some 0) : s.size ≤ 10 := by
 unfold proof_lineError.f at h
 split at h
 ·cases h
 ·split at h
  ·cases h
  ·omega
theorem short_ok {l : List ByteArray} (hl : PageOk l) : allShort l = true := List.all_eq_true.2 fun s hs => by
 have := line_size (hl.2 s hs)
 exact decide_eq_true (by omega)
theorem fresh_ok {o p : List ByteArray} (ho : PageOk o) (hp : PageOk p) : proof_Fresh.f [o] p = some (freshN (cntB o) p, 0) := by
 unfold proof_Fresh.f
 have h1 := ho.1
 have h2 := hp.1
 simp only
 rw [if_pos ⟨by omega, by omega, short_ok ho, short_ok hp⟩, asked_ok (by simp) (fun q hq => by rw [List.mem_singleton.1 hq]; exact ho) hp (by omega), Option.bind_some, if_pos rfl]
theorem apply_ok {l : List ByteArray} (hl : PageOk l) {k : Nat} (hk : 10 ≤ k) : proof_Apply.f k l [] = some (l, 0) := by
 have := hl.1
 unfold proof_Apply.f proof_checked.f
 rw [check_ok hl hk, Option.bind_some, if_pos rfl, marks_nil l hk, Option.bind_some, Option.bind_some, if_pos rfl]
 unfold proof_made.f
 rw [if_pos ⟨rfl, by omega⟩, Option.bind_some, if_neg (by omega)]
theorem index_loop (l : List ByteArray) (s : ByteArray) (hl : l.length ≤ 100) : ∀ (m k : Nat) (i : Int), 0 ≤ i → (l.length : Int) - i = m → m < k → ∃ r, slices_Index_string_string.l0 k l s (l.length : Int) i = some r ∧ (0 ≤ r ↔ ∃ j : Int, i ≤ j ∧ j < l.length ∧ s.toList = (rdOf ByteArray.empty l j).toList) := by
 intro m
 induction m with
 | zero =>
  intro k i h0 hm hk
  obtain ⟨k, rfl⟩ : ∃ q, k = q + 1 := ⟨k - 1, by omega⟩
  rw [slices_Index_string_string.l0, if_neg (by omega)]
  exact ⟨-1, rfl, fun h => by omega, fun ⟨j, h1, h2, _⟩ => by omega⟩
 | succ m ih =>
  intro k i h0 hm hk
  obtain ⟨k, rfl⟩ : ∃ q, k = q + 1 := ⟨k - 1, by omega⟩
  rw [slices_Index_string_string.l0, if_pos (by omega), if_pos h0, if_pos (by omega)]
  by_cases he : s.toList = (rdOf ByteArray.empty l i).toList
  ·rw [if_pos he]
   exact ⟨i, rfl, fun _ => ⟨i, by omega, by omega, he⟩, fun _ => h0⟩
  ·rw [if_neg he, wrapS h0 (by omega)]
   obtain ⟨r, hr, hiff⟩ := ih k (i + 1) (by omega) (by omega) (by omega)
   refine ⟨r, hr, hiff.trans ⟨fun ⟨j, h1, h2, h3⟩ => ⟨j, by omega, h2, h3⟩, fun ⟨j, h1, h2, h3⟩ => ⟨j, ?_, h2, h3⟩⟩⟩
   rcases Int.lt_or_eq_of_le h1 with h4 | h4
   ·omega
   ·rw [← h4] at h3
    exact absurd h3 he
theorem contains_ok (l : List ByteArray) (s : ByteArray) (hl : l.length ≤ 20) {k : Nat} (hk : 30 ≤ k) : ∃ b, slices_Contains_string_string.f k l s = some b ∧ (b = true ↔ s ∈ l) := by
 obtain ⟨r, hr, hiff⟩ := index_loop l s (by omega) l.length k 0 (by omega) (by omega) (by omega)
 unfold slices_Contains_string_string.f slices_Index_string_string.f
 rw [hr]
 refine ⟨_, rfl, ?_⟩
 rw [decide_eq_true_iff]
 refine hiff.trans ⟨fun ⟨j, h1, h2, h3⟩ => ?_, fun h => ?_⟩
 ·rw [toList_inj h3]
  exact rd_mem l j h1 h2
 ·obtain ⟨j, hj, rfl⟩ := List.mem_iff_getElem.1 h
  refine ⟨j, by omega, by omega, ?_⟩
  unfold rdOf
  rw [Int.toNat_natCast, List.getD_eq_getElem?_getD, List.getElem?_eq_getElem hj]
  rfl
theorem origin_ok (l : List ByteArray) (s : ByteArray) (hl : l.length ≤ 20) (hs : s ∈ l) {k : Nat} (hk : 40 ≤ k) : proof_origin.f k [l] s = some 0 := by
 obtain ⟨k, rfl⟩ : ∃ q, k = q + 1 := ⟨k - 1, by omega⟩
 obtain ⟨b, hb, hiff⟩ := contains_ok l s hl (k := k) (by omega)
 unfold proof_origin.f
 have e1 : ((([l] : List (List ByteArray)).length : Nat) : Int) = 1 := rfl
 rw [e1, show wrap64 (1 - 1) = 0 by kernel_rfl, proof_origin.l0, if_pos (by omega), if_pos (by omega), e1, if_pos (by omega), show rd_L7 [l] 0 = l from rfl, hb, Option.bind_some, if_pos (hiff.2 hs)]
theorem look_put {o p : List ByteArray} {m : S42} (ho : PageOk o) (hp : PageOk p) (h : proof_diff.f o p = some [m]) (h1 : m.f0 = 1) (hm : m.f2 ∈ p) {k : Nat} (hk : 50 ≤ k) : ∃ x, proof_Look.f k [p, o] [] p = some (x, m.f1, 0) ∧ (m.f2 ∈ o → x = 3) ∧ (m.f2 ∉ o → x = 2) := by
 obtain ⟨b, hb, hiff⟩ := contains_ok o m.f2 (by have := ho.1; omega) (k := k) (by omega)
 have e1 : ((([m] : List S42).length : Nat) : Int) = 1 := rfl
 have e2 : rd_T42 [m] 0 = m := rfl
 have e3 : ((([p, o] : List (List ByteArray)).length : Nat) : Int) = 2 := rfl
 have e4 : wrap64 (2 - 1) = 1 := by kernel_rfl
 have e5 : rd_L7 [p, o] 1 = o := rfl
 have e6 : ([p, o] : List (List ByteArray)).take (1 : Int).toNat = [p] := rfl
 unfold proof_Look.f
 rw [years_ok (by simp) (fun q hq => by simp at hq; rcases hq with rfl | rfl; exact hp; exact ho) (by omega), Option.bind_some, if_pos rfl, e3, if_neg (by omega), e4, if_pos (by omega), if_pos (by omega), e5, apply_ok ho (by omega), Option.bind_some, if_pos rfl, check_ok hp (by omega), Option.bind_some, if_pos rfl, h, Option.bind_some, e1, if_neg (by omega), if_pos (by omega), e2, if_neg (by omega), hb, Option.bind_some]
 by_cases hin : m.f2 ∈ o
 ·rw [if_pos (hiff.2 hin)]
  exact ⟨3, rfl, fun _ => rfl, fun h => absurd hin h⟩
 ·rw [if_neg (fun h => hin (hiff.1 h)), if_pos (by omega), e6, origin_ok p m.f2 (by have := hp.1; omega) hm (by omega), Option.bind_some, if_pos (by omega)]
  exact ⟨2, rfl, fun h => absurd h hin, fun _ => rfl⟩
theorem look_out {o p : List ByteArray} {b : S42} (ho : PageOk o) (hp : PageOk p) (h : proof_diff.f p o = some [b]) (h1 : b.f0 = 3) {k : Nat} (hk : 50 ≤ k) : proof_Look.f k [o, p] [] o = some (1, b.f1, 0) := by
 have e1 : ((([b] : List S42).length : Nat) : Int) = 1 := rfl
 have e2 : rd_T42 [b] 0 = b := rfl
 have e3 : ((([o, p] : List (List ByteArray)).length : Nat) : Int) = 2 := rfl
 have e4 : wrap64 (2 - 1) = 1 := by kernel_rfl
 have e5 : rd_L7 [o, p] 1 = p := rfl
 unfold proof_Look.f
 rw [years_ok (by simp) (fun q hq => by simp at hq; rcases hq with rfl | rfl; exact ho; exact hp) (by omega), Option.bind_some, if_pos rfl, e3, if_neg (by omega), e4, if_pos (by omega), if_pos (by omega), e5, apply_ok hp (by omega), Option.bind_some, if_pos rfl, check_ok ho (by omega), Option.bind_some, if_pos rfl, h, Option.bind_some, e1, if_neg (by omega), if_pos (by omega), e2, if_pos h1]
end Go.Proofs.YteoknahabkoknaaGreatDoor.P
namespace Go.Proofs.YteoknahabkoknaaGreatDoor.P
open Go.RowKit Go.Proofs.YteoknahabkoknaaGreatDoorW.PrintWords Go.Proofs.YteoknahabkoknaaGreatDoorW.PrintLast
set_option linter.unusedVariables false
set_option linter.unusedSimpArgs false
/- Dice.raw of wayzgoosekit: the contract of the call, for whatever dice. -/
def dx1 (s : Int) : Int := bits BinOp.xor IntKind.u64 s (IntKind.u64.wrap (s * 8192))
def dx2 (s : Int) : Int := bits BinOp.xor IntKind.u64 (dx1 s) (dx1 s / 128)
def dx3 (s : Int) : Int := bits BinOp.xor IntKind.u64 (dx2 s) (IntKind.u64.wrap (dx2 s * 131072))
def dx4 (s n : Int) : Int := IntKind.u64.wrap (s + IntKind.u64.wrap (IntKind.u64.wrap n * 13787848793156543929))
def dn1 (s : Int) : Int := bits BinOp.xor IntKind.u64 (IntKind.u64.wrap (bits BinOp.xor IntKind.u64 s (s / 1073741824) * 10723151780598845931)) (IntKind.u64.wrap (bits BinOp.xor IntKind.u64 s (s / 1073741824) * 10723151780598845931) / 2147483648)
def wayzgoosekit_Dice_raw.f (s0_0 : List Int) (s0_1 : Int) (s0_2 : Int) : Option (Int × Int × Int) :=
 if s0_1 < s0_0.length then (if 0 ≤ s0_1 then some (dn1 (dx4 (dx3 s0_2) (rd s0_0 s0_1)), s0_1 + 1, dx4 (dx3 s0_2) (rd s0_0 s0_1)) else none) else some (dn1 (dx3 s0_2), s0_1, dx3 s0_2)
/-- What is held of the dice and the world between two statements. -/
structure DiceAt (w0 w W : World) (g : Nat) (A0 : Option Addr) (n c0 : Nat) (at_ s : Int) : Prop where
 hb : W.heap[g]? = some (.cells #[.slice A0 n c0, .int .i64 at_, .int .u64 s] 50 (0, 0))
 low : Below w0.heap.size w0 W
 keep : KeepBut w W g none
theorem DiceAt.set2 {w0 w W : World} {g : Nat} {A0 : Option Addr} {n c0 : Nat} {at_ s : Int} (h : DiceAt w0 w W g A0 n c0 at_ s) (hg : w0.heap.size ≤ g) (x : Int) : DiceAt w0 w (W.setCell ⟨g, 2, none⟩ (.int .u64 x)) g A0 n c0 at_ x :=
 ⟨by simpa using blk_set h.hb 2 (.int .u64 x), below_set h.low hg, KeepBut.set_ h.keep _ _⟩
theorem DiceAt.set1 {w0 w W : World} {g : Nat} {A0 : Option Addr} {n c0 : Nat} {at_ s : Int} (h : DiceAt w0 w W g A0 n c0 at_ s) (hg : w0.heap.size ≤ g) (x : Int) : DiceAt w0 w (W.setCell ⟨g, 1, none⟩ (.int .i64 x)) g A0 n c0 x s :=
 ⟨by simpa using blk_set h.hb 1 (.int .i64 x), below_set h.low hg, KeepBut.set_ h.keep _ _⟩
theorem DiceAt.drew {w0 w W : World} {g : Nat} {A0 : Option Addr} {n c0 : Nat} {at_ s : Int} (h : DiceAt w0 w W g A0 n c0 at_ s) : DiceAt w0 w W.drew g A0 n c0 at_ s := ⟨h.hb, below_drew h.low, keep_drew h.keep⟩
theorem DiceAt.drewN {w0 w W : World} {g : Nat} {A0 : Option Addr} {n c0 : Nat} {at_ s : Int} (h : DiceAt w0 w W g A0 n c0 at_ s) (m : Nat) : DiceAt w0 w (W.drewN m) g A0 n c0 at_ s := ⟨h.hb, pw_below_drewN h.low m, keep_drewN h.keep m⟩
theorem DiceAt.is {w0 w W : World} {g : Nat} {A0 : Option Addr} {l : List Int} {c0 : Nat} {at_ s : Int} (h : DiceAt w0 w W g A0 l.length c0 at_ s) (hg : w0.heap.size ≤ g) (hr : Kd.C (Kd.int .i64) w0 A0 l.length l) : IsS50 w0 W g l at_ s ∧ Below w0.heap.size w0 W ∧ KeepBut w W g none :=
 ⟨⟨A0, c0, h.hb, hg, hr⟩, h.low, h.keep⟩
theorem DiceAt.cells {w0 w W : World} {g : Nat} {A0 : Option Addr} {n c0 : Nat} {at_ s : Int} (h : DiceAt w0 w W g A0 n c0 at_ s) :
  W.cell? ⟨g, 0, none⟩ = some (.slice A0 n c0) ∧ W.cell? ⟨g, 1, none⟩ = some (.int .i64 at_) ∧ W.cell? ⟨g, 2, none⟩ = some (.int .u64 s) ∧ W.frozen? ⟨g, 1, none⟩ = false ∧ W.frozen? ⟨g, 2, none⟩ = false := by
 have hb := h.hb
 exact ⟨(blk_cell hb 0).trans rfl, (blk_cell hb 1).trans rfl, (blk_cell hb 2).trans rfl, by simp [World.frozen?, hb], by simp [World.frozen?, hb]⟩
set_option maxHeartbeats 8000000 in
set_option maxRecDepth 100000 in
theorem wayzgoosekit_Dice_raw.calls (g : Nat) (s0_0 : List Int) (s0_1 : Int) (s0_2 : Int) (r1 : Int) (r2 : Int) (r3 : Int) (w0 w : World) (hI : IsS50 w0 w g s0_0 s0_1 s0_2) (hB : Below w0.heap.size w0 w) (h : wayzgoosekit_Dice_raw.f s0_0 s0_1 s0_2 = some (r1, r2, r3)) :
  Calls Tryz.prog 37 #[.pointer (some ⟨g, 0, none⟩)] w fun e w' => e = .returned (.int .u64 r1) ∧ IsS50 w0 w' g s0_0 r2 r3 ∧ Below w0.heap.size w0 w' ∧ KeepBut w w' g none := by
 obtain ⟨A0, c0, hb, hg, hr0⟩ := hI
 have D0 : DiceAt w0 w w g A0 s0_0.length c0 s0_1 s0_2 := ⟨hb, hB, KeepBut.refl w g none⟩
 have HR := Aside0.mk hr0
 clear hb hB hr0
 have hp : s0_1 < s0_0.length → 0 ≤ s0_1 := by
  intro hl
  unfold wayzgoosekit_Dice_raw.f at h
  rw [if_pos hl] at h
  by_cases h0 : 0 ≤ s0_1
  ·exact h0
  ·rw [if_neg h0] at h; cases h
 have HP := Aside0.mk hp
 have HH := Aside0.mk h
 clear hp h
 obtain ⟨h0, h1, h2, z1, z2⟩ := D0.cells
 go_enter Tryz.func37, Tryz.ntmps37
 go_wp2
 go_region
 go_wp2
 have D1 := (D0.set2 hg (dx1 s0_2)).drew
 change DiceAt w0 w (w.setCell ⟨g, 2, none⟩ (.int .u64 (bits BinOp.xor IntKind.u64 s0_2 (IntKind.u64.wrap (s0_2 * 8192))))).drew g A0 s0_0.length c0 s0_1 (dx1 s0_2) at D1
 generalize (w.setCell ⟨g, 2, none⟩ (.int .u64 (bits BinOp.xor IntKind.u64 s0_2 (IntKind.u64.wrap (s0_2 * 8192))))).drew = w1 at D1 ⊢
 clear h0 h1 h2 z1 z2
 obtain ⟨h0, h1, h2, z1, z2⟩ := D1.cells
 go_region
 go_wp2
 have D2 := (D1.set2 hg (dx2 s0_2)).drew
 change DiceAt w0 w (w1.setCell ⟨g, 2, none⟩ (.int .u64 (bits BinOp.xor IntKind.u64 (dx1 s0_2) (dx1 s0_2 / 128)))).drew g A0 s0_0.length c0 s0_1 (dx2 s0_2) at D2
 generalize (w1.setCell ⟨g, 2, none⟩ (.int .u64 (bits BinOp.xor IntKind.u64 (dx1 s0_2) (dx1 s0_2 / 128)))).drew = w2 at D2 ⊢
 clear h0 h1 h2 z1 z2
 obtain ⟨h0, h1, h2, z1, z2⟩ := D2.cells
 go_region
 go_wp2
 have D3 := (D2.set2 hg (dx3 s0_2)).drew
 change DiceAt w0 w (w2.setCell ⟨g, 2, none⟩ (.int .u64 (bits BinOp.xor IntKind.u64 (dx2 s0_2) (IntKind.u64.wrap (dx2 s0_2 * 131072))))).drew g A0 s0_0.length c0 s0_1 (dx3 s0_2) at D3
 generalize (w2.setCell ⟨g, 2, none⟩ (.int .u64 (bits BinOp.xor IntKind.u64 (dx2 s0_2) (IntKind.u64.wrap (dx2 s0_2 * 131072))))).drew = w3 at D3 ⊢
 clear h0 h1 h2 z1 z2
 obtain ⟨h0, h1, h2, z1, z2⟩ := D3.cells
 by_cases hl : s0_1 < s0_0.length
 ·have hp := HP.out hl
  obtain ⟨ad, rfl, hc⟩ := Kd.at_int HR.out s0_1 hp hl
  have hc3 : w3.cell? (ad.add s0_1.toNat) = some (.int .i64 (rd s0_0 s0_1)) := pw_cell_below D3.low hc
  clear hc
  go_quiet (fail)
  go_wp2
  go_region
  go_wp2
  go_ret
  have h := HH.out
  unfold wayzgoosekit_Dice_raw.f at h
  rw [if_pos hl, if_pos hp] at h
  obtain ⟨rfl, rfl, rfl⟩ : _ ∧ _ ∧ _ := by simpa only [Option.some.injEq, Prod.mk.injEq] using h
  refine ⟨rfl, DiceAt.is (A0 := some ad) (c0 := c0) ?_ hg HR.out⟩
  have hw : wrap64 (s0_1 + 1) = s0_1 + 1 := by
   have := HR.out.2.1
   unfold wrap64; omega
  rw [hw]
  exact ((D3.drewN _).set2 hg _).set1 hg _
 ·go_quiet (fail)
  go_wp2
  go_ret
  have h := HH.out
  unfold wayzgoosekit_Dice_raw.f at h
  rw [if_neg (by omega)] at h
  obtain ⟨rfl, rfl, rfl⟩ : _ ∧ _ ∧ _ := by simpa only [Option.some.injEq, Prod.mk.injEq] using h
  refine ⟨rfl, DiceAt.is (A0 := A0) (c0 := c0) ?_ hg HR.out⟩
  exact D3.drewN _
end Go.Proofs.YteoknahabkoknaaGreatDoor.P
namespace Go.Proofs.YteoknahabkoknaaGreatDoor.P
open Go.RowKit Go.Shelf
set_option linter.unusedVariables false
/- A range over a function whose rounds are told a fact about what they are handed, and whose body always goes on: the iterator may turn whatever blocks it has laid itself. -/
/-- What stands under a growth that turns a block at or beyond b alone. -/
def Abides {β : Type} (b : Nat) (J : β → World → Prop) : Prop := ∀ s A C row, J s A → A.grownBy C row → (∀ r, row = some r → b ≤ r) → J s C
theorem Abides.put {β : Type} {b : Nat} {J : β → World → Prop} (h : Abides b J) {s : β} {W : World} {l : Nat} (o : Obj) (hs : J s W) (hl : b ≤ l) : J s (W.putObj l o) :=
 h s W _ (some l) hs (grownBy_putObj' W l o) (fun r e => by cases e; exact hl)
theorem Abides.alloc {β : Type} {b : Nat} {J : β → World → Prop} (h : Abides b J) {s : β} {W : World} (o : Obj) (hs : J s W) : J s (W.alloc o) :=
 h s W _ none hs (World.grownBy_alloc W o none) (fun r e => by cases e)
/-- How the body's walk ends: it goes on. -/
def goesOn {α : Type} (b n₀ : Nat) (I : List α → World → Prop) (xs : List α) (W : World) : Exit → Act → World → Prop
 | .normal, _, W' => KeepsFrom b W W' ∧ Below n₀ W W' ∧ I xs W'
 | .ret, _, _ => False
 | .exit _, _, _ => False
 | .goto _, _, _ => False
 | .panic _, _, _ => False
 | .outgrown, _, _ => False
/-- What the iterator owes. -/
def Yields {α : Type} (F : Fence) (n : Nat) (P : Program) (gf : Nat) (lb : Array Value) (encs : α → Array Value) (Px : List α → α → World → Prop) (n₀ : Nat) (w : World) : Prop :=
 ∀ (l : Nat) (J : List α → World → Prop) (W : World), Below w.heap.size w W → Abides W.heap.size J →
  (∀ pre x W1, J pre W1 → Px pre x W1 → YieldAt F (n - 1) P l (encs x) W1 fun e W' => e = .returned (.bool true) ∧ J (pre ++ [x]) W' ∧ Below n₀ W1 W') → J [] W →
  CallsIn F n P gf (#[.func (.yield l) #[] #[]] ++ lb) W fun e W' => (∃ v, e = .returned v) ∧ ∃ xs, J xs W'
theorem rangeFunc_all {α : Type} {F : Fence} {n : Nat} {P : Program} {g : Operand} {ps : Array Tmp} {assign body : Code} {Q : Exit → Act → World → Prop} {a : Act} {w : World}
  (hro : F.round = none) (h1 : 1 ≤ n) {gf : Nat} {lb : Array Value} (hg : a.eval g = .func (.func gf) #[] lb) (hFg : F.fn gf) (eg : ∀ args w, (callFunc gf args).run P w = .ok (.enter gf args) w)
  {encs : α → Array Value} {Px : List α → α → World → Prop} {n₀ : Nat} (hn₀ : n₀ ≤ w.heap.size) (hPx : ∀ pre x (W : World) l o o', W.heap[l]? = some o → o.isCells = false → Px pre x W → Px pre x (W.putObj l o'))
  (hseq : Yields F (n - 1) P gf lb encs Px n₀ w) (hps : ∀ x, (encs x).size = ps.size)
  (I : List α → World → Prop) (hI : Abides w.heap.size I) (h0 : I [] w) (a₁ : α → Act)
  (hassign : ∀ (l : Nat) (x : α) (W : World) (K : Act → World → Prop), K (a₁ x) W →
   assign.wpIn (F.inRound l) (n - 1 - 1) P (Exit.then K (fun _ _ _ => False)) { tmps := (ps.zip (encs x)).foldl (fun t (p, v) => t.setIfInBounds p v) a.tmps, defers := [] } W)
  (hbody : ∀ (l : Nat) (pre : List α) (x : α) (W : World), I pre W → Px pre x W → body.wpIn (F.inRound l) (n - 1 - 1) P (goesOn w.heap.size n₀ I (pre ++ [x]) W) (a₁ x) W)
  (hdone : ∀ (D : Nat) (xs : List α) (W : World), w.heap.size ≤ D → I xs W → W.heap[D]? = some (.deferred (some [])) → Q .normal { a with defers := { target := .collected D, args := #[] } :: a.defers } W) :
  (Code.rangeFunc g ps assign body).wpIn F n P Q a w := by
 refine wpIn_rangeFunc ?_
 intro fn hfn
 rw [hro]
 obtain ⟨rec, hrec⟩ : ∃ rec : LoopState → Option Code → Loop, rec = fun st pe => { state := st, pending := pe, fn, tmps := a.tmps, params := ps, assign, body, defers := w.heap.size } := ⟨_, rfl⟩
 obtain ⟨W1, hW1⟩ : ∃ W1, (w.alloc (.deferred (some []))).alloc (.loop (rec .ready none)) = W1 := ⟨_, rfl⟩
 have hsz : W1.heap.size = w.heap.size + 2 := by rw [← hW1]; simp
 have hL : W1.heap[w.heap.size + 1]? = some (.loop (rec .ready none)) := by
  rw [← hW1]
  have := World.alloc_heap_new (w.alloc (.deferred (some []))) (.loop (rec .ready none))
  rwa [World.size_alloc] at this
 have hD : W1.heap[w.heap.size]? = some (.deferred (some [])) := by
  rw [← hW1]
  exact (Below.heap_alloc _ _ _ (by simp)).trans (World.alloc_heap_new w _)
 have hI1 : I [] W1 := by rw [← hW1]; exact hI.alloc _ (hI.alloc _ h0)
 have hb1 : Below w.heap.size w W1 := by rw [← hW1]; exact ((Below.refl _ w).alloc (Nat.le_refl _) _).alloc (by simp) _
 have kept : ∀ {A C : World} {row : Option Nat} {k : Nat} {o : Obj}, A.grownBy C row → (∀ r, row = some r → W1.heap.size ≤ r) → k < W1.heap.size → A.heap[k]? = some o → C.heap[k]? = some o := fun hg hr hk hA =>
  (hg.block _ (Array.getElem?_eq_some_iff.1 hA).1 (fun e => by have := hr _ e.symm; omega)).trans hA
 refine ⟨w.heap.size + 1, [{ target := .collected w.heap.size, args := #[] }], W1, { target := .fn (.func gf) lb, args := #[.func (.yield (w.heap.size + 1)) #[] #[]] }, W1, gf,
  #[.func (.yield (w.heap.size + 1)) #[] #[]] ++ lb, W1, ?_, ?_, ?_, ?_, fun _ => h1, ?_⟩
 ·rw [← hW1, hrec]; exact run_enterLoop_outer _ _ _ _ _
 ·simp only [resolve, hg]
  simp [go_sem]
 ·intro f' hf'; simp [Target.leads] at hf'; subst hf'; exact hFg
 ·simp [invoke, go_sem, eg]
 refine (hseq (w.heap.size + 1) (fun pre W => I pre W ∧ W.heap[w.heap.size + 1]? = some (.loop (rec .ready none)) ∧ W.heap[w.heap.size]? = some (.deferred (some []))) W1 hb1
  (fun s A C row hs hg hr => ⟨hI s A C row hs.1 hg (fun r e => by have := hr r e; omega), kept hg hr (by omega) hs.2.1, kept hg hr (by omega) hs.2.2⟩) ?_ ⟨hI1, hL, hD⟩).mono ?_
 ·rintro pre x W ⟨hi, hl, hk⟩ hx
  have hlt : w.heap.size + 1 < W.heap.size := (Array.getElem?_eq_some_iff.1 hl).1
  have hy := run_yield (P := P) (args := encs x) hl (by rw [hrec]; exact hps x)
  rw [hrec] at hy
  refine ⟨fn, _, assign, body, hy, roundIn_of_wpIn hfn (hassign _ x W _ ⟨_, run_beginRound hl (by rw [hrec]), ?_⟩)⟩
  have hl2 : (W.putObj (w.heap.size + 1) (.loop { rec .ready none with state := .busy })).heap[w.heap.size + 1]? = some (.loop { rec .ready none with state := .busy }) := World.putObj_heap_same hlt
  have hk2 : (W.putObj (w.heap.size + 1) (.loop { rec .ready none with state := .busy })).heap[w.heap.size]? = some (.deferred (some [])) := (World.putObj_heap_other (by omega)).trans hk
  have hw2 : Below n₀ W (W.putObj (w.heap.size + 1) (.loop { rec .ready none with state := .busy })) := (Below.refl n₀ W).grown (grownBy_putObj' W _ _) (by omega) (fun k e => by cases e; omega)
  refine wpIn_mono (hbody _ pre x _ (hI.put _ hi (by omega)) (hPx _ _ _ _ _ _ hl rfl hx)) ?_
  rintro e a3 W3 hp
  cases e with
  | normal =>
   obtain ⟨hk3, hkp3, hi3⟩ := hp
   have hl3 := hk3.same _ _ (by omega) hl2 rfl
   have hd3 := hk3.same _ _ (Nat.le_refl _) hk2 rfl
   have hr := run_endRound (P := P) none hl3
   rw [hrec] at hr
   refine ⟨_, _, hr, rfl, ⟨hI.put _ hi3 (by omega), ?_, (World.putObj_heap_other (by omega)).trans hd3⟩, ?_⟩
   ·rw [hrec]
    exact World.putObj_heap_same (Array.getElem?_eq_some_iff.1 hl3).1
   ·exact (hw2.trans hkp3).trans ((Below.refl n₀ W3).grown (grownBy_putObj' W3 _ _) (by have := hk3.size; have := (Array.getElem?_eq_some_iff.1 hl3).1; omega) (fun k e => by cases e; omega))
  | ret => exact hp.elim
  | exit id => exact hp.elim
  | goto t => exact hp.elim
  | panic ch => exact hp.elim
  | outgrown => exact hp.elim
 ·rintro e W2 ⟨⟨v, rfl⟩, xs, hi, hl, hk⟩
  have hr := run_endLoop (P := P) hl (by rw [hrec]; simp)
  rw [hrec] at hr
  exact ⟨none, _, hr, hdone _ xs _ (Nat.le_refl _) (hI.put _ hi (by omega)) ((World.putObj_heap_other (by omega)).trans hk)⟩
end Go.Proofs.YteoknahabkoknaaGreatDoor.P
