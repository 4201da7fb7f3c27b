/- PointTurns, for all inputs of bulk at most 1048576: the law answers true, and its arguments read as they did. The listed variables are tied to the program's text. -/
import Derived.Test.YtiminmnmeknioaaGreatDoorTu5
import Derived.Test.YtiminmnmeknioaaGreatDoorCards
import Derived.Test.YtiminmnmeknioaaGreatDoorTie
set_option linter.unusedVariables false
namespace Go.Proofs.YtiminmnmeknioaaGreatDoor.turnsLaw
open Go Go.ChangeShapes Go.WideShapes Go.ChangeAt Go.RowKit

set_option maxRecDepth 100000 in
theorem contract (H : Type) (enc : TypeId × Value → H) (W : World) (base : Nat) (args : Array Value) (ds gs : List (DataW H)) (before : List MemPlace)
    (hval : ∀ (j : Nat) t v, Tryz.f5.params[j]? = some t → args[j]? = some v → Value.okWide Tryz.prog W .any base t v)
    (hW : DataW.Whole enc Tryz.prog Tryz.f5.params.toList Rows.pointTurnsSpec.vars false W args.toList ds gs before) (hL : laidMetH Tryz.prog theLaid W) (hk : Rows.uptoSmall H (ds ++ gs) = true) :
    Calls Tryz.prog 5 args W fun e W' => ∃ v, e = .returned v ∧ Rows.pointTurnsSpec.post enc Tryz.prog Tryz.f5 false true false false W args v W' := by
  have hW' := hW
  obtain ⟨p, q, hA0, hV, rfl, hfz, hnd⟩ := hW
  have hA : DataW.TrodAll enc Tryz.prog W 0 (fun _ => true) true Tryz.f5.params.toList args.toList ds p := hA0
  rw [Tryz.params5] at hA hval
  obtain ⟨v0, v1, v2, d0, d1, d2, p0, p1, p2, rfl, rfl, rfl, h0, h1, h2⟩ := trodAll_three hA
  obtain ⟨rfl, rfl⟩ := trodVars_none hV
  have hb := bulk_bound hk
  rw [List.append_nil] at hb
  have hB0 : Rows.uptoBulk d0 ≤ 1048576 := by have := bulk_part (d := d0) (l := [d0, d1, d2]) (by simp); omega
  have hB1 : Rows.uptoBulk d1 ≤ 1048576 := by have := bulk_part (d := d1) (l := [d0, d1, d2]) (by simp); omega
  have hB2 : Rows.uptoBulk d2 ≤ 1048576 := by have := bulk_part (d := d2) (l := [d0, d1, d2]) (by simp); omega
  obtain ⟨a0, ln0, cp0, rfl⟩ := okWide_slice Tryz.underlying60 (hval 0 60 v0 rfl rfl)
  obtain ⟨fuel0, hf0⟩ := h0
  obtain ⟨sv0, xs0, hcs0, hx0, hxl0, hm0⟩ := rd_slice Tryz.underlying60 (by kernel_rfl) (by omega) Rd.points hf0
  obtain rfl : Value.slice a0 ln0 cp0 = sv0 := by injection hcs0
  obtain ⟨z1, rfl⟩ := okWide_int Tryz.underlying3 (hval 1 3 v1 rfl rfl)
  obtain ⟨fuel1, hf1⟩ := h1
  obtain ⟨z2, rfl⟩ := okWide_int Tryz.underlying5 (hval 2 5 v2 rfl rfl)
  obtain ⟨fuel2, hf2⟩ := h2
  obtain ⟨at1, e1, r1⟩ := rd_i64 Tryz.underlying3 hf1
  obtain rfl : z1 = at1 := by injection e1 with e1 _; injection e1
  obtain ⟨bt, e2⟩ := rd_u8 Tryz.underlying5 hf2
  obtain rfl : z2 = (bt.toNat : Int) := by injection e2 with e2 _; injection e2
  refine (PointTurns_calls W _ xs0 z1 bt hx0 (Nat.le_trans hxl0 hB0) (fun p hp => (hm0 p hp).elim fun n hn => ⟨Nat.le_trans hn.2.1 (Nat.le_trans hn.1 hB0), hn.2.2⟩) r1 (errTy_of_laid hL)).mono fun e W' he => ?_
  obtain ⟨rfl, hbel⟩ := he
  exact ⟨_, rfl, post_true hW' rfl (by kernel_rfl) Tryz.underlying4 rfl pLaidOut (by kernel_rfl) hbel⟩

abbrev wArgs : Array Value := #[.slice none 0 0, .int .i64 0, .int .u8 0]
theorem laid_met (os : Os) : laidMetH Tryz.prog theLaid ((laidWorld os).forCall (fun _ _ => 0) ⟨#[], wArgs, []⟩).memory :=
  laidMetH_of_parts (laidMet_of_run' 8 (by kernel_rfl) (by kernel_rfl)) (by kernel_rfl)
theorem reads (os : Os) {H : Type} (enc : TypeId × Value → H) : ∃ places, DataW.whole enc Tryz.prog ((laidWorld os).forCall (fun _ _ => 0) ⟨#[], wArgs, []⟩).memory Tryz.f5.params.toList Rows.pointTurnsSpec.vars false wArgs.toList 8 = some ([.nil, .lit (.int .i64 0), .lit (.int .u8 0)], [], places) :=
  ⟨[], by kernel_rfl⟩
set_option maxRecDepth 100000 in
theorem lifted (os : Os) (started : os.Started) (H : Type) (enc : TypeId × Value → H) (F : Stop.Interp) :
    ReturnsInHanded {} Tryz.checked os 5 .any ((Rows.OpenSpec.upto Rows.pointTurnsSpec).preRow enc Tryz.prog Tryz.f5 Rows.pointTurnsUptoRow.domain false Rows.pointTurnsUptoRow.laid) (((Rows.OpenSpec.upto Rows.pointTurnsSpec).at F).post enc Tryz.prog Tryz.f5 false true false false) := by
  obtain ⟨places, hx⟩ := reads os enc
  refine returnsInHanded_of_row (C := Tryz.checked) (s := Rows.OpenSpec.upto Rows.pointTurnsSpec) pOwn started (by kernel_rfl) Tryz.func5
    (witness_row_at (enc := enc) (C := Tryz.checked) false (laidWorld os) wArgs rfl (by kernel_rfl) (by kernel_rfl) (by kernel_rfl)
      (OpenSpec.preRow_of_cond 8 hx (by kernel_rfl) (fun k hk => by cases hk; kernel_rfl) (by kernel_rfl) (laid_met os))) ?_
  intro W base args ds gs before hval hW _ hcond _ hL _ _
  exact contract H enc W base args ds gs before hval hW hL (hcond _ rfl)
theorem said : Rows.PointTurnsUptoSaid :=
  OpenClaim.holds_of_cond 5 Tryz.f5 rfl rfl rfl rfl rfl rfl rfl ⟨rfl, rfl, rfl, rfl, rfl⟩ rfl rfl rfl rfl rfl (by kernel_rfl) Tryz.func5 (by kernel_rfl)
    (of_decide_eq_true (by kernel_rfl)) (by unfold Func.isWrapper; first | (rw [if_pos (by decide +kernel)]; kernel_rfl) | (rw [if_neg (by decide +kernel)]; exact ⟨rfl, rfl⟩))
    (fun os started H enc _ F => by rw [OpenClaim.pre_eq_preRow]; exact lifted os started H enc F)
theorem plain (f : FuncId) (fn : Func) (hf : Tryz.pinned.checked.prog.funcNamed "undercroft/undercroftlaw17.PointTurns" = some f) (hfn : Tryz.pinned.checked.prog.funcs[f]? = some fn) :
    true = Tryz.pinned.checked.prog.looks [] ∧ ∀ (j : Nat) t, fn.params[j]? = some t → Tryz.pinned.checked.prog.wantsStandIn t = false := by
  obtain rfl : f = 5 := Option.some.inj ((show Tryz.prog.funcNamed "undercroft/undercroftlaw17.PointTurns" = some 5 by kernel_rfl).symm.trans hf) |>.symm
  obtain rfl : fn = Tryz.f5 := (Option.some.inj (Tryz.func5.symm.trans hfn)).symm
  refine ⟨by kernel_rfl, fun j t ht => ?_⟩
  rw [Tryz.params5] at ht
  have hm := Array.mem_of_getElem? ht
  have hall : (Tryz.f5.params.toList.all fun t => !(Tryz.prog.wantsStandIn t)) = true := by kernel_rfl
  rw [Tryz.params5] at hall
  have := List.all_eq_true.1 hall t (by simpa using hm)
  have hfin : Tryz.prog.wantsStandIn t = false := by simpa using this
  exact hfin
theorem card : Rows.PointTurnsUptoCardSaid :=
  Claim7.holds_tied_plain_at .later [] _ _ _ _ said (fun _ h => by cases h) (by kernel_rfl) (fun _ h => by cases h) pointTurnsUpto_row_tie rfl ⟨rfl, rfl⟩ (by kernel_rfl) rfl plain (by kernel_rfl)
#print axioms card
end Go.Proofs.YtiminmnmeknioaaGreatDoor.turnsLaw

