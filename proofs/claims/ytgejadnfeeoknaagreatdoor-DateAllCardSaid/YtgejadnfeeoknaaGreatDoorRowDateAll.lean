/-
  'rentier/rentierlaw6.DateAll' is proved: for every input the law returns true, and each argument reads behind the call as it read before: the row, and its card.
  CONDITIONS: those of the given row alone: the listed package-level variables start as the program's text lays them (the card ties them).
-/
import Derived.Test.YtgejadnfeeoknaaGreatDoorLn
import Derived.Test.YtgejadnfeeoknaaGreatDoorRb
import Derived.Test.YtgejadnfeeoknaaGreatDoorTie
import Derived.Test.YtgejadnfeeoknaaGreatDoorCards
import Derived.Lib.SmallJoins
namespace Go.Proofs.YtgejadnfeeoknaaGreatDoor
namespace RDateAll
open Go.ChangeShapes Go.WideShapes Go.ChangeAt Go.RowKit
open Go.ChangeMaps (open_string shut_string)
open Go.Joins
set_option linter.unusedVariables false
set_option linter.unusedSimpArgs false

theorem cells24 : Tryz.prog.cellsOf 24 = 3 := by kernel_rfl
theorem structReads24 {H : Type} {enc : TypeId × Value → H} (W' : World) (b : Nat) (sp : Nat → Bool) (hd : Bool) (x y f : Int) (wx : (Lit.int .i64 x).wf = true) (wy : (Lit.int .i64 y).wf = true) (wf : (Lit.int .i64 f).wf = true) :
    DataW.Trod enc Tryz.prog W' b sp hd 24 (.agg #[.int .i64 x, .int .i64 y, .int .i64 f]) (.agg [.lit (.int .i64 x), .lit (.int .i64 y), .lit (.int .i64 f)]) [] := by
  simpa using shut_agg3 (enc := enc) (w := W') (base := b) (spare := sp) (held := hd) (y0 := (.lit (.int .i64 x), [])) (y1 := (.lit (.int .i64 y), [])) (y2 := (.lit (.int .i64 f), [])) Tryz.underlying24 (by kernel_rfl) cells24 ⟨1, by simp [DataW.trod, Tryz.underlying3, wx]⟩ ⟨1, by simp [DataW.trod, Tryz.underlying3, wy]⟩ ⟨1, by simp [DataW.trod, Tryz.underlying3, wf]⟩
theorem door_met (os : Os) (args : Array Value) : laidMetH Tryz.prog Rows.dateAllRow.laid ((RB.wit os).forCall (fun _ _ => 0) ⟨#[], args, []⟩).memory := RB.door_met os args
theorem met {W : World} (h : laidMetH Tryz.prog Rows.dateAllRow.laid W) : Met2 W := RB.met h

set_option maxRecDepth 100000 in
set_option maxHeartbeats 200000000 in
theorem lifted (os : Os) (started : os.Started) (H : Type) (enc : TypeId × Value → H) :
    ReturnsInHanded {} Tryz.checked os 14 .any (fun w args => (Rows.dateAllSpec.pre enc Tryz.prog Tryz.f14 [] false w args ∧ laidMetH Tryz.prog Rows.dateAllRow.laid w) ∧ sizedMet enc Tryz.prog Tryz.f14 (OpenSpec.ofChange Rows.dateAllSpec) false w args)
      (Rows.dateAllSpec.post enc Tryz.prog Tryz.f14 false true false false) := by
  refine returnsInHanded_of_change_and (C := Tryz.checked) (X := fun w _ => laidMetH Tryz.prog Rows.dateAllRow.laid w) (fun _ _ _ hh h => h.of_heap hh) RB.own started (by as_aux_lemma => kernel_rfl) Tryz.func14
    (ChangeSpec.witness_shaped (enc := enc) (C := Tryz.checked) (os := os) (X := fun w _ => laidMetH Tryz.prog Rows.dateAllRow.laid w) false (RB.wit os) #[.int .i64 0, .agg #[.int .i64 0, .int .i64 0, .int .i64 0], .string ByteArray.empty] 8 ((World.layVars_os _ _ _).trans rfl) (World.shaped_of_ZipB (by as_aux_lemma => kernel_rfl) (by as_aux_lemma => kernel_rfl)) (by as_aux_lemma => kernel_rfl) (by as_aux_lemma => kernel_rfl) (by as_aux_lemma => kernel_rfl) (door_met os _)) ?_
  intro W base args ds gs before hval0 hW _ _ hL _
  have hval : ∀ (j : Nat) t v, Tryz.f14.params[j]? = some t → args[j]? = some v → Value.okWide Tryz.prog W .any base t v := hval0
  have hW' := hW
  obtain ⟨p, q, hA0, hV, rfl, hfz, hnd⟩ := hW
  have hA : DataW.TrodAll enc Tryz.prog W 0 (fun _ => true) true Tryz.f14.params.toList args.toList ds p := hA0
  rw [Tryz.params14] at hA hval
  obtain ⟨v0, vs0, d0, ds0, p0, q0, hargs, rfl, rfl, h0, r0⟩ := trodAll_cons hA
  obtain ⟨v1, vs1, d1, ds1, p1, q1, rfl, rfl, rfl, h1, r1⟩ := trodAll_cons r0
  obtain ⟨v2, vs2, d2, ds2, p2, q2, rfl, rfl, rfl, h2, r2⟩ := trodAll_cons r1
  obtain ⟨rfl, rfl, rfl⟩ := trodAll_nil r2
  obtain rfl : args = #[v0, v1, v2] := by cases args; simp_all
  obtain ⟨rfl, rfl⟩ := trodVars_none hV
  obtain ⟨a0, rfl, rfl, rfl, w0⟩ := open_int Tryz.underlying3 (hval 0 3 v0 rfl rfl) h0
  obtain ⟨a1_0, a1_1, a1_2, y1_0, y1_1, y1_2, m1, rfl, rfl, rfl, k1_0, k1_1, k1_2⟩ := open_agg3 Tryz.underlying24 (by kernel_rfl) cells24 (hval 1 24 v1 rfl rfl) h1
  obtain ⟨b1_0, e1_0, rfl, w1_0⟩ := DataW.trod_int Tryz.underlying3 k1_0
  obtain ⟨b1_1, e1_1, rfl, w1_1⟩ := DataW.trod_int Tryz.underlying3 k1_1
  obtain ⟨b1_2, e1_2, rfl, w1_2⟩ := DataW.trod_int Tryz.underlying3 k1_2
  simp at e1_0 e1_1 e1_2
  subst e1_0 e1_1 e1_2
  obtain ⟨a2, rfl, rfl, rfl, w2⟩ := open_string Tryz.underlying9 (hval 2 9 v2 rfl rfl) h2
  clear hA0 hval0
  simp only [List.append_nil] at hW'
  refine (dateAll_calls a0 b1_0 b1_1 b1_2 a2 (bounds_i64 w0).1 (bounds_i64 w0).2 (bd_str w2) W (met hL)).mono fun e W' ⟨he, hg⟩ => ?_
  subst he
  exact ⟨_, rfl, _, _, _, [], [], [], hW', (trodAll_cons_mk (shut_bool Tryz.underlying4 _) trodAll_mk0), (trodAll_cons_mk (shut_int Tryz.underlying3 w0) (trodAll_cons_mk (structReads24 _ _ _ _ _ _ _ w1_0 w1_1 w1_2) (trodAll_cons_mk (shut_string Tryz.underlying9 w2) trodAll_mk0))), rfl, hg.frame _, fun h => by cases h⟩
set_option maxRecDepth 100000 in
set_option maxHeartbeats 200000000 in
theorem closed : joinedFacts Tryz.pinned.checked.prog 14 Tryz.f14 Rows.dateAllSpec Rows.dateAllRow = true := by
  unfold joinedFacts
  repeat' (with_reducible refine RB.both ?_ ?_)
  all_goals (as_aux_lemma => kernel_rfl)
theorem instOk : Tryz.f14.isInstance Tryz.pinned.checked.prog Rows.dateAllRow.origin Rows.dateAllRow.targs := of_decide_eq_true (by kernel_rfl)
theorem wrapOk : Tryz.f14.isWrapper Tryz.pinned.checked.prog Rows.dateAllRow.wrapper Rows.dateAllRow.mainSum := by unfold Func.isWrapper; first | (rw [if_pos (by decide +kernel)]; kernel_rfl) | (rw [if_neg (by decide +kernel)]; exact ⟨rfl, rfl⟩)
set_option maxHeartbeats 200000000 in
theorem holds : Rows.DateAllSaid :=
  OpenClaim.holds_of_wide 14 Tryz.f14 rfl rfl rfl rfl rfl rfl rfl ⟨rfl, rfl, rfl, rfl, rfl⟩ rfl rfl rfl rfl rfl (by as_aux_lemma => kernel_rfl) Tryz.func14 closed instOk wrapOk
    (fun os started H enc _ => lifted os started H enc)
end RDateAll

set_option maxHeartbeats 200000000 in
/-- THE CARD. -/
theorem dateAll_card : Rows.DateAllCardSaid :=
  Claim7.holds_tied_plain_at .later [] [.data, .data, .data, .data, .handle, .sentinel, .sentinel, .pinned] true (true, "ec48f9e5f2077390b61e01c36dd7fcb493f70ab904ae63784b51b27ee4b760cb") true
    RDateAll.holds (fun _ h => by cases h) (by as_aux_lemma => kernel_rfl) (fun _ h => by cases h) dateAll_row_tie rfl ⟨rfl, rfl⟩ (by as_aux_lemma => kernel_rfl) rfl
    (fun f fn hf hfn => by
      obtain rfl : f = 14 := Option.some.inj ((show Tryz.prog.funcNamed "rentier/rentierlaw6.DateAll" = some 14 by kernel_rfl).symm.trans hf) |>.symm
      obtain rfl : fn = Tryz.f14 := (Option.some.inj (Tryz.func14.symm.trans hfn)).symm
      exact ⟨by kernel_rfl, fun j t ht => by
        rw [Tryz.params14] at ht
        have hm : t ∈ [3, 24, 9] := by simpa using Array.mem_of_getElem? ht
        have hall : ([3, 24, 9].all fun u => !Tryz.prog.wantsStandIn u) = true := by kernel_rfl
        exact (show Tryz.prog.wantsStandIn t = false by simpa using List.all_eq_true.1 hall t hm)⟩)
    (by as_aux_lemma => kernel_rfl)
#print axioms dateAll_card
end Go.Proofs.YtgejadnfeeoknaaGreatDoor
