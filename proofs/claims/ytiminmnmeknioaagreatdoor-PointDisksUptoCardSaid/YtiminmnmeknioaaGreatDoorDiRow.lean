/- PointDisks, for all inputs of bulk at most 1048576: the law answers true, and its arguments read as they did. The listed variables are tied to the program's text. -/
import Derived.Test.YtiminmnmeknioaaGreatDoorDi5
import Derived.Test.YtiminmnmeknioaaGreatDoorCards
import Derived.Test.YtiminmnmeknioaaGreatDoorTie
set_option linter.unusedVariables false
namespace Go.Proofs.YtiminmnmeknioaaGreatDoor.disksLaw
open Go Go.ChangeShapes Go.WideShapes Go.ChangeAt Go.RowKit

set_option maxRecDepth 100000 in
theorem contract (H : Type) (enc : TypeId × Value → H) (W : World) (base : Nat) (args : Array Value) (ds gs : List (DataW H)) (before : List MemPlace)
    (hval : ∀ (j : Nat) t v, Tryz.f4.params[j]? = some t → args[j]? = some v → Value.okWide Tryz.prog W .any base t v)
    (hW : DataW.Whole enc Tryz.prog Tryz.f4.params.toList Rows.pointDisksSpec.vars false W args.toList ds gs before) (hL : laidMetH Tryz.prog theLaid W) (hk : Rows.uptoSmall H (ds ++ gs) = true) :
    Calls Tryz.prog 4 args W fun e W' => ∃ v, e = .returned v ∧ Rows.pointDisksSpec.post enc Tryz.prog Tryz.f4 false true false false W args v W' := by
  have hW' := hW
  obtain ⟨p, q, hA0, hV, rfl, hfz, hnd⟩ := hW
  have hA : DataW.TrodAll enc Tryz.prog W 0 (fun _ => true) true Tryz.f4.params.toList args.toList ds p := hA0
  rw [Tryz.params4] at hA hval
  obtain ⟨v0, v1, d0, d1, p0, p1, rfl, rfl, rfl, h0, h1⟩ := trodAll_two hA
  obtain ⟨rfl, rfl⟩ := trodVars_none hV
  have hb := bulk_bound hk
  rw [List.append_nil] at hb
  have hB0 : Rows.uptoBulk d0 ≤ 1048576 := by have := bulk_part (d := d0) (l := [d0, d1]) (by simp); omega
  have hB1 : Rows.uptoBulk d1 ≤ 1048576 := by have := bulk_part (d := d1) (l := [d0, d1]) (by simp); omega
  obtain ⟨cs0, rfl, -⟩ := okWide_struct Tryz.underlying47 (hval 0 47 v0 rfl rfl)
  obtain ⟨fuel0, hf0⟩ := h0
  obtain ⟨dk0, sv0, cv0, hcs0, hs0, hc0, hd0⟩ := rd_dk hf0
  obtain rfl : cs0 = #[sv0, cv0] := by rw [← Array.toList_inj]; exact hcs0
  obtain ⟨cs1, rfl, -⟩ := okWide_struct Tryz.underlying24 (hval 1 24 v1 rfl rfl)
  obtain ⟨fuel1, hf1⟩ := h1
  obtain ⟨pt1, dv1, hcs1, hdt1, hbl1, hr1⟩ := rd_pt hf1
  obtain rfl : cs1 = #[vi pt1.ep, vi pt1.sq, vi pt1.vw, vi pt1.cm, dv1] := by rw [← Array.toList_inj]; exact hcs1
  refine (PointDisks_calls W dk0 sv0 cv0 pt1 dv1 hs0 hc0 (hd0 hB0) hdt1 (Nat.le_trans hbl1 hB1) (errTy_of_laid hL)).mono fun e W' he => ?_
  obtain ⟨rfl, hbel⟩ := he
  exact ⟨_, rfl, post_true hW' rfl (by kernel_rfl) Tryz.underlying4 rfl pLaidOut (by kernel_rfl) hbel⟩

abbrev wArgs : Array Value := #[.agg #[.slice none 0 0, .slice none 0 0], .agg #[.int .i64 0, .int .i64 0, .int .i64 0, .int .i64 0, .slice none 0 0]]
theorem laid_met (os : Os) : laidMetH Tryz.prog theLaid ((laidWorld os).forCall (fun _ _ => 0) ⟨#[], wArgs, []⟩).memory :=
  laidMetH_of_parts (laidMet_of_run' 8 (by kernel_rfl) (by kernel_rfl)) (by kernel_rfl)
theorem reads (os : Os) {H : Type} (enc : TypeId × Value → H) : ∃ places, DataW.whole enc Tryz.prog ((laidWorld os).forCall (fun _ _ => 0) ⟨#[], wArgs, []⟩).memory Tryz.f4.params.toList Rows.pointDisksSpec.vars false wArgs.toList 8 = some ([.agg [.nil, .nil], .agg [.lit (.int .i64 0), .lit (.int .i64 0), .lit (.int .i64 0), .lit (.int .i64 0), .nil]], [], places) :=
  ⟨[], by kernel_rfl⟩
set_option maxRecDepth 100000 in
theorem lifted (os : Os) (started : os.Started) (H : Type) (enc : TypeId × Value → H) (F : Stop.Interp) :
    ReturnsInHanded {} Tryz.checked os 4 .any ((Rows.OpenSpec.upto Rows.pointDisksSpec).preRow enc Tryz.prog Tryz.f4 Rows.pointDisksUptoRow.domain false Rows.pointDisksUptoRow.laid) (((Rows.OpenSpec.upto Rows.pointDisksSpec).at F).post enc Tryz.prog Tryz.f4 false true false false) := by
  obtain ⟨places, hx⟩ := reads os enc
  refine returnsInHanded_of_row (C := Tryz.checked) (s := Rows.OpenSpec.upto Rows.pointDisksSpec) pOwn started (by kernel_rfl) Tryz.func4
    (witness_row_at (enc := enc) (C := Tryz.checked) false (laidWorld os) wArgs rfl (by kernel_rfl) (by kernel_rfl) (by kernel_rfl)
      (OpenSpec.preRow_of_cond 8 hx (by kernel_rfl) (fun k hk => by cases hk; kernel_rfl) (by kernel_rfl) (laid_met os))) ?_
  intro W base args ds gs before hval hW _ hcond _ hL _ _
  exact contract H enc W base args ds gs before hval hW hL (hcond _ rfl)
theorem said : Rows.PointDisksUptoSaid :=
  OpenClaim.holds_of_cond 4 Tryz.f4 rfl rfl rfl rfl rfl rfl rfl ⟨rfl, rfl, rfl, rfl, rfl⟩ rfl rfl rfl rfl rfl (by kernel_rfl) Tryz.func4 (by kernel_rfl)
    (of_decide_eq_true (by kernel_rfl)) (by unfold Func.isWrapper; first | (rw [if_pos (by decide +kernel)]; kernel_rfl) | (rw [if_neg (by decide +kernel)]; exact ⟨rfl, rfl⟩))
    (fun os started H enc _ F => by rw [OpenClaim.pre_eq_preRow]; exact lifted os started H enc F)
theorem plain (f : FuncId) (fn : Func) (hf : Tryz.pinned.checked.prog.funcNamed "undercroft/undercroftlaw17.PointDisks" = some f) (hfn : Tryz.pinned.checked.prog.funcs[f]? = some fn) :
    true = Tryz.pinned.checked.prog.looks [] ∧ ∀ (j : Nat) t, fn.params[j]? = some t → Tryz.pinned.checked.prog.wantsStandIn t = false := by
  obtain rfl : f = 4 := Option.some.inj ((show Tryz.prog.funcNamed "undercroft/undercroftlaw17.PointDisks" = some 4 by kernel_rfl).symm.trans hf) |>.symm
  obtain rfl : fn = Tryz.f4 := (Option.some.inj (Tryz.func4.symm.trans hfn)).symm
  refine ⟨by kernel_rfl, fun j t ht => ?_⟩
  rw [Tryz.params4] at ht
  have hm := Array.mem_of_getElem? ht
  have hall : (Tryz.f4.params.toList.all fun t => !(Tryz.prog.wantsStandIn t)) = true := by kernel_rfl
  rw [Tryz.params4] at hall
  have := List.all_eq_true.1 hall t (by simpa using hm)
  have hfin : Tryz.prog.wantsStandIn t = false := by simpa using this
  exact hfin
theorem card : Rows.PointDisksUptoCardSaid :=
  Claim7.holds_tied_plain_at .later [] _ _ _ _ said (fun _ h => by cases h) (by kernel_rfl) (fun _ h => by cases h) pointDisksUpto_row_tie rfl ⟨rfl, rfl⟩ (by kernel_rfl) rfl plain (by kernel_rfl)
#print axioms card
end Go.Proofs.YtiminmnmeknioaaGreatDoor.disksLaw

