/- PointOldOrNew, for all inputs of bulk at most 1048576: the law answers true, and its arguments read as they did. The listed variables are tied to the program's text. -/
import Derived.Test.YtiminmnmeknioaaGreatDoorOn5
import Derived.Carry
import Derived.Test.YtiminmnmeknioaaGreatDoorCards
import Derived.Test.YtiminmnmeknioaaGreatDoorTie
set_option linter.unusedVariables false
namespace Go.Proofs.YtiminmnmeknioaaGreatDoor.oldnewLaw
open Go Go.ChangeShapes Go.WideShapes Go.ChangeAt Go.RowKit

set_option maxRecDepth 100000 in
theorem contract (H : Type) (enc : TypeId × Value → H) (W : World) (base : Nat) (args : Array Value) (ds gs : List (DataW H)) (before : List MemPlace)
    (hval : ∀ (j : Nat) t v, Tryz.f7.params[j]? = some t → args[j]? = some v → Value.okWide Tryz.prog W .any base t v)
    (hW : DataW.Whole enc Tryz.prog Tryz.f7.params.toList Rows.pointOldOrNewSpec.vars false W args.toList ds gs before) (hL : laidMetH Tryz.prog theLaid W) (hk : Rows.uptoSmall H (ds ++ gs) = true) :
    Calls Tryz.prog 7 args W fun e W' => ∃ v, e = .returned v ∧ Rows.pointOldOrNewSpec.post enc Tryz.prog Tryz.f7 false true false false W args v W' := by
  have hW' := hW
  obtain ⟨p, q, hA0, hV, rfl, hfz, hnd⟩ := hW
  have hA : DataW.TrodAll enc Tryz.prog W 0 (fun _ => true) true Tryz.f7.params.toList args.toList ds p := hA0
  rw [Tryz.params7] at hA hval
  obtain ⟨v0, v1, v2, v3, d0, d1, d2, d3, p0, p1, p2, p3, rfl, rfl, rfl, h0, h1, h2, h3⟩ := trodAll_four hA
  obtain ⟨rfl, rfl⟩ := trodVars_none hV
  have hb := bulk_bound hk
  rw [List.append_nil] at hb
  have hB0 : Rows.uptoBulk d0 ≤ 1048576 := by have := bulk_part (d := d0) (l := [d0, d1, d2, d3]) (by simp); omega
  have hB1 : Rows.uptoBulk d1 ≤ 1048576 := by have := bulk_part (d := d1) (l := [d0, d1, d2, d3]) (by simp); omega
  have hB2 : Rows.uptoBulk d2 ≤ 1048576 := by have := bulk_part (d := d2) (l := [d0, d1, d2, d3]) (by simp); omega
  have hB3 : Rows.uptoBulk d3 ≤ 1048576 := by have := bulk_part (d := d3) (l := [d0, d1, d2, d3]) (by simp); omega
  obtain ⟨cs0, rfl, -⟩ := okWide_struct Tryz.underlying24 (hval 0 24 v0 rfl rfl)
  obtain ⟨fuel0, hf0⟩ := h0
  obtain ⟨pt0, dv0, hcs0, hdt0, hbl0, hr0⟩ := rd_pt hf0
  obtain rfl : cs0 = #[vi pt0.ep, vi pt0.sq, vi pt0.vw, vi pt0.cm, dv0] := by rw [← Array.toList_inj]; exact hcs0
  obtain ⟨cs1, rfl, -⟩ := okWide_struct Tryz.underlying24 (hval 1 24 v1 rfl rfl)
  obtain ⟨fuel1, hf1⟩ := h1
  obtain ⟨pt1, dv1, hcs1, hdt1, hbl1, hr1⟩ := rd_pt hf1
  obtain rfl : cs1 = #[vi pt1.ep, vi pt1.sq, vi pt1.vw, vi pt1.cm, dv1] := by rw [← Array.toList_inj]; exact hcs1
  obtain ⟨cs2, rfl, -⟩ := okWide_struct Tryz.underlying24 (hval 2 24 v2 rfl rfl)
  obtain ⟨fuel2, hf2⟩ := h2
  obtain ⟨pt2, dv2, hcs2, hdt2, hbl2, hr2⟩ := rd_pt hf2
  obtain rfl : cs2 = #[vi pt2.ep, vi pt2.sq, vi pt2.vw, vi pt2.cm, dv2] := by rw [← Array.toList_inj]; exact hcs2
  obtain ⟨a3, ln3, cp3, rfl⟩ := okWide_slice Tryz.underlying65 (hval 3 65 v3 rfl rfl)
  obtain ⟨fuel3, hf3⟩ := h3
  obtain ⟨sv3, xs3, hcs3, hx3, hxl3⟩ := rd_bools Tryz.underlying65 Tryz.underlying4 (by kernel_rfl) hf3
  obtain rfl : Value.slice a3 ln3 cp3 = sv3 := by injection hcs3
  refine (PointOldOrNew_calls W pt0 pt1 pt2 dv0 dv1 dv2 _ xs3 hdt0 hdt1 hdt2 (Nat.le_trans hbl0 hB0) (Nat.le_trans hbl1 hB1) (Nat.le_trans hbl2 hB2) hx3 (errTy_of_laid hL)).mono fun e W' he => ?_
  obtain ⟨rfl, hbel⟩ := he
  exact ⟨_, rfl, post_true hW' rfl (by kernel_rfl) Tryz.underlying4 rfl pLaidOut (by kernel_rfl) hbel⟩

abbrev wArgs : Array Value := #[.agg #[.int .i64 0, .int .i64 0, .int .i64 0, .int .i64 0, .slice none 0 0], .agg #[.int .i64 0, .int .i64 0, .int .i64 0, .int .i64 0, .slice none 0 0], .agg #[.int .i64 0, .int .i64 0, .int .i64 0, .int .i64 0, .slice none 0 0], .slice none 0 0]
theorem laid_met (os : Os) : laidMetH Tryz.prog theLaid ((laidWorld os).forCall (fun _ _ => 0) ⟨#[], wArgs, []⟩).memory :=
  laidMetH_of_parts (laidMet_of_run' 8 (by kernel_rfl) (by kernel_rfl)) (by kernel_rfl)
theorem reads (os : Os) {H : Type} (enc : TypeId × Value → H) : ∃ places, DataW.whole enc Tryz.prog ((laidWorld os).forCall (fun _ _ => 0) ⟨#[], wArgs, []⟩).memory Tryz.f7.params.toList Rows.pointOldOrNewSpec.vars false wArgs.toList 8 = some ([.agg [.lit (.int .i64 0), .lit (.int .i64 0), .lit (.int .i64 0), .lit (.int .i64 0), .nil], .agg [.lit (.int .i64 0), .lit (.int .i64 0), .lit (.int .i64 0), .lit (.int .i64 0), .nil], .agg [.lit (.int .i64 0), .lit (.int .i64 0), .lit (.int .i64 0), .lit (.int .i64 0), .nil], .nil], [], places) :=
  ⟨[], by kernel_rfl⟩
set_option maxRecDepth 100000 in
theorem lifted (os : Os) (started : os.Started) (H : Type) (enc : TypeId × Value → H) (F : Stop.Interp) :
    ReturnsInHanded {} Tryz.checked os 7 .any ((Rows.OpenSpec.upto Rows.pointOldOrNewSpec).preRow enc Tryz.prog Tryz.f7 Rows.pointOldOrNewUptoRow.domain false Rows.pointOldOrNewUptoRow.laid) (((Rows.OpenSpec.upto Rows.pointOldOrNewSpec).at F).post enc Tryz.prog Tryz.f7 false true false false) := by
  obtain ⟨places, hx⟩ := reads os enc
  refine returnsInHanded_of_row (C := Tryz.checked) (s := Rows.OpenSpec.upto Rows.pointOldOrNewSpec) pOwn started (by kernel_rfl) Tryz.func7
    (witness_row_at (enc := enc) (C := Tryz.checked) false (laidWorld os) wArgs rfl (by kernel_rfl) (by kernel_rfl) (by kernel_rfl)
      (OpenSpec.preRow_of_cond 8 hx (by kernel_rfl) (fun k hk => by cases hk; kernel_rfl) (by kernel_rfl) (laid_met os))) ?_
  intro W base args ds gs before hval hW _ hcond _ hL _ _
  exact contract H enc W base args ds gs before hval hW hL (hcond _ rfl)
theorem said : Rows.PointOldOrNewUptoSaid :=
  OpenClaim.holds_of_cond 7 Tryz.f7 rfl rfl rfl rfl rfl rfl rfl ⟨rfl, rfl, rfl, rfl, rfl⟩ rfl rfl rfl rfl rfl (by kernel_rfl) Tryz.func7 (by kernel_rfl)
    (of_decide_eq_true (by kernel_rfl)) (by unfold Func.isWrapper; first | (rw [if_pos (by decide +kernel)]; kernel_rfl) | (rw [if_neg (by decide +kernel)]; exact ⟨rfl, rfl⟩))
    (fun os started H enc _ F => by rw [OpenClaim.pre_eq_preRow]; exact lifted os started H enc F)
theorem plain (f : FuncId) (fn : Func) (hf : Tryz.pinned.checked.prog.funcNamed "undercroft/undercroftlaw17.PointOldOrNew" = some f) (hfn : Tryz.pinned.checked.prog.funcs[f]? = some fn) :
    true = Tryz.pinned.checked.prog.looks [] ∧ ∀ (j : Nat) t, fn.params[j]? = some t → Tryz.pinned.checked.prog.wantsStandIn t = false := by
  obtain rfl : f = 7 := Option.some.inj ((show Tryz.prog.funcNamed "undercroft/undercroftlaw17.PointOldOrNew" = some 7 by kernel_rfl).symm.trans hf) |>.symm
  obtain rfl : fn = Tryz.f7 := (Option.some.inj (Tryz.func7.symm.trans hfn)).symm
  refine ⟨by kernel_rfl, fun j t ht => ?_⟩
  rw [Tryz.params7] at ht
  have hm := Array.mem_of_getElem? ht
  have hall : (Tryz.f7.params.toList.all fun t => !(Tryz.prog.wantsStandIn t)) = true := by kernel_rfl
  rw [Tryz.params7] at hall
  have := List.all_eq_true.1 hall t (by simpa using hm)
  have hfin : Tryz.prog.wantsStandIn t = false := by simpa using this
  exact hfin
theorem card : Rows.PointOldOrNewUptoCardSaid :=
  Claim7.holds_tied_plain_at .later [] _ _ _ _ said (fun _ h => by cases h) (by kernel_rfl) (fun _ h => by cases h) pointOldOrNewUpto_row_tie rfl ⟨rfl, rfl⟩ (by kernel_rfl) rfl plain (by kernel_rfl)
#print axioms card
end Go.Proofs.YtiminmnmeknioaaGreatDoor.oldnewLaw

