/-
  ValueKinds returns true, whatever the state it is called in, and leaves what was there as it was: the given tied card; conditions: those of the given card.
-/
import Derived.Test.YtkmieoelgamdpaaGreatDoorVkH
import Derived.Test.YtkmieoelgamdpaaGreatDoorVkK0
import Derived.Test.YtkmieoelgamdpaaGreatDoorVkK1
import Derived.Test.YtkmieoelgamdpaaGreatDoorVkK2
import Derived.Test.YtkmieoelgamdpaaGreatDoorVkK3
import Derived.Test.YtkmieoelgamdpaaGreatDoorVkK4
import Derived.Test.YtkmieoelgamdpaaGreatDoorRows
import Derived.Test.YtkmieoelgamdpaaGreatDoorCards
import Derived.Test.YtkmieoelgamdpaaGreatDoorTie
import Derived.WalkKit
import Derived.ProofKit
import Derived.LaidMore
import Derived.OpenShut
import Derived.SevenTiedAt
import Derived.Stop.Joined
set_option linter.deprecated false
set_option linter.unusedVariables false
set_option linter.unusedSimpArgs false

/- ValueKinds: the walk. -/
namespace Go.Sx.Vk
open Go Go.Proofs Go.RowKit
set_option maxRecDepth 1000000

theorem three {f : Nat → Bool} (h0 : ((List.range' 0 7).all f) = true) (h1 : ((List.range' 7 6).all f) = true) (h2 : ((List.range' 13 6).all f) = true) (i : Nat) (hi : i < 19) : f i = true := by
  by_cases a : i < 7
  · exact List.all_eq_true.1 h0 i (List.mem_range'_1.2 ⟨by omega, by omega⟩)
  · by_cases b : i < 13
    · exact List.all_eq_true.1 h1 i (List.mem_range'_1.2 ⟨by omega, by omega⟩)
    · exact List.all_eq_true.1 h2 i (List.mem_range'_1.2 ⟨by omega, by omega⟩)

theorem rounds_all : ∀ (k : Nat), k < 5 → ∀ i, i < 19 → stepI k i = true
  | 0, _ => three steps0_0 steps0_1 steps0_2
  | 1, _ => three steps1_0 steps1_1 steps1_2
  | 2, _ => three steps2_0 steps2_1 steps2_2
  | 3, _ => three steps3_0 steps3_1 steps3_2
  | 4, _ => three steps4_0 steps4_1 steps4_2
  | k + 5, h => absurd h (by omega)

/-- THE WALK. -/
theorem walk3 (w : World) : Calls Tryz.prog 3 #[] w fun e w' => e = .returned (.bool true) ∧ Below w.heap.size w w' := by
  have hbody : ∀ a, Has Φ0 w start3 a w → code3.wpIn (fenAt none) 0 Tryz.prog (fun e a' w' => ∃ S, e = .ret ∧ Has Φ0 w S a' w' ∧ resultsS Tryz.prog Tryz.f3.results.toList S S.heap = some [.bool (.lit .bool 1)]) a w := by
    intro a H
    rw [code3_eq]
    refine has_seq (has_run okK3 run3a H) fun a1 w1 H => ?_
    refine has_seq (has_run okK3 run3b H) fun a2 w2 H => ?_
    refine has_seq (has_run okK3 run3d H) fun a3 w3 H => ?_
    refine has_seq (has_run okK3 run3e H) fun a4 w4 H => ?_
    refine has_seq (has_run okK3 run3f H) fun a5 w5 H => ?_
    refine has_seq (has_run okK3 run3g H) fun a6 w6 H => ?_
    refine has_seq (Φ := Φ0) (w0 := w) (S' := S3 10) (has_seq (has_run okK3 run3h H) fun a w H => ?_) fun a7 w7 H => ?_
    · refine has_loop (N := 10) (S := S3) (SE := S3 10) ?_ ?_ (H.gc gc3)
      · intro i hi a w H
        by_cases h5 : i < 5
        · exact round3 hi (fun j hj => rounds_all i h5 j hj) H
        · exact round5 (by omega) hi H
      · intro a w H
        exact has_step okK3 last3 H
    · refine wpIn_mono (has_tree (okK3l.loops (invK fun _ => 60) (muK fun _ => 60)) ev3 H) ?_
      rintro e a' w' ⟨x, S', hq, hx, hH⟩
      obtain ⟨rfl, hres⟩ := good3_res hq
      exact ⟨S', hx, hH, hres⟩
  have := calls_body (fn := Tryz.f3) (b := code3) (Φ := Φ0) (args := []) (vs := [.bool (.lit .bool 1)]) (vals := []) (rv := [.bool true]) Tryz.func3 (by kernel_rfl) trivial (fun n => rfl) (fun n => rfl) w hbody
  exact this
end Go.Sx.Vk

/- ValueKinds: the row and the tied card. -/
namespace Go.Proofs.YtkmieoelgamdpaaGreatDoor.valueKinds
open Go.ChangeShapes Go.WideShapes Go.ChangeAt Go.RowKit

theorem own : ownKnob Tryz.prog.godebug = none := by kernel_rfl

abbrev laid1 {H : Type} : List (String × DataW H) := [("math/bits.deBruijn64tab", Rows.laid_math_bits_deBruijn64tab)]

/-- The door's own heap meets the condition. -/
theorem door_met (os : Os) (args : Array Value) : laidMetH Tryz.prog laid1 ((World.doorLaid Tryz.prog 400 os).forCall (fun _ _ => 0) ⟨#[], args, []⟩).memory :=
  laidMetH_of_parts3 (fuel := 8) (laidMet_of_run' 8 (by kernel_rfl) (by kernel_rfl)) (by kernel_rfl) (by kernel_rfl)

theorem walk (w : World) : Calls Tryz.prog 3 #[] w fun e w' => e = .returned (.bool true) ∧ Below w.heap.size w w' :=
  Go.Sx.Vk.walk3 w

set_option maxRecDepth 100000 in
theorem lifted (os : Os) (started : os.Started) (H : Type) (enc : TypeId × Value → H) :
    ReturnsInHanded {} Tryz.checked os 3 .any (fun w args => (Rows.valueKindsSpec.pre enc Tryz.prog Tryz.f3 [] false w args ∧ laidMetH Tryz.prog laid1 w) ∧ sizedMet enc Tryz.prog Tryz.f3 (OpenSpec.ofChange Rows.valueKindsSpec) false w args)
      (Rows.valueKindsSpec.post enc Tryz.prog Tryz.f3 false true false false) := by
  refine returnsInHanded_of_change_and (C := Tryz.checked) (X := fun w _ => laidMetH Tryz.prog laid1 w) (fun _ _ _ hh h => h.of_heap hh) own started (by kernel_rfl) Tryz.func3
    (ChangeSpec.witness_shaped (enc := enc) (C := Tryz.checked) (os := os) (X := fun w _ => laidMetH Tryz.prog laid1 w) false (World.doorLaid Tryz.prog 400 os) #[] 8 rfl (World.shaped_of_RefB (by kernel_rfl) (by kernel_rfl)) (by kernel_rfl) (by kernel_rfl) (by kernel_rfl) (door_met os _)) ?_
  intro W base args ds gs before hval0 hW _ _ hL _
  have hW' := hW
  obtain ⟨p, q, hA0, hV, rfl, hfz, hnd⟩ := hW
  have hA : DataW.TrodAll enc Tryz.prog W 0 (fun _ => true) true Tryz.f3.params.toList args.toList ds p := hA0
  rw [Tryz.params3] at hA
  obtain ⟨rfl, rfl, rfl⟩ := trodAll_none hA
  obtain ⟨rfl, rfl⟩ := trodVars_none hV
  simp only [List.append_nil] at hW'
  refine (walk W).mono fun e W' ⟨he, hb⟩ => ?_
  subst he
  exact ⟨_, rfl, ⟨_, _, _, [], _, [], hW', trodAll_mk1 (shut_bool Tryz.underlying4 _), trodAll_mk0, rfl, hb.frame _, fun h => by cases h⟩⟩

theorem row_holds : Rows.ValueKindsSaid :=
  OpenClaim.holds_of_wide 3 Tryz.f3 rfl rfl rfl rfl rfl rfl rfl ⟨rfl, rfl, rfl, rfl, rfl⟩ rfl rfl rfl rfl rfl (by kernel_rfl) Tryz.func3 (by kernel_rfl)
    (of_decide_eq_true (by kernel_rfl)) (by unfold Func.isWrapper; first | (rw [if_pos (by decide +kernel)]; kernel_rfl) | (rw [if_neg (by decide +kernel)]; exact ⟨rfl, rfl⟩))
    (fun os started H enc _ => lifted os started H enc)

theorem card_holds : Rows.ValueKindsCardSaid :=
  Claim7.holds_tied_plain_at .later [] [.data] true (true, "911290862de31cc6e81aa032df97a63aaf8ad50ddfa9ed5e9bb7b4daffa8f563") false
    row_holds (fun _ h => by cases h) (by kernel_rfl) (fun _ h => by cases h) valueKinds_row_tie rfl ⟨rfl, rfl⟩ (by kernel_rfl) rfl
    (fun f fn hf hfn => by
      obtain rfl : f = 3 := Option.some.inj ((show Tryz.prog.funcNamed "hatchway/hatchwaylaw22.ValueKinds" = some 3 by kernel_rfl).symm.trans hf) |>.symm
      obtain rfl : fn = Tryz.f3 := (Option.some.inj (Tryz.func3.symm.trans hfn)).symm
      exact ⟨by kernel_rfl, fun j t ht => by
        rw [Tryz.params3] at ht
        simp at ht⟩)
    (by kernel_rfl)
#print axioms card_holds
end Go.Proofs.YtkmieoelgamdpaaGreatDoor.valueKinds
