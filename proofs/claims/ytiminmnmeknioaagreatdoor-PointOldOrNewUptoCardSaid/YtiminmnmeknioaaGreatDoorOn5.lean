/- undercroftplain. -/
import Derived.Test.YtiminmnmeknioaaGreatDoorOw4
import Derived.Test.YtiminmnmeknioaaGreatDoorRows
set_option linter.unusedVariables false
namespace Go.Proofs.YtiminmnmeknioaaGreatDoor
open Go Go.RowKit

theorem u8_ne (a b : UInt8) : ((a.toNat : Int) != (b.toNat : Int)) = decide (a ≠ b) := by
  by_cases h : a = b
  · subst h; simp
  · have : (a.toNat : Int) ≠ (b.toNat : Int) := fun e => h (UInt8.toNat_inj.1 (by omega))
    simp [h, this]
theorem SameBytes_calls (w : World) (v1 v2 : Value) (xs ys : List UInt8) (h1 : BA w v1 xs) (h2 : BA w v2 ys) : Calls Tryz.prog 14 #[v1, v2] w (Ret0 w (.bool (decide (xs = ys)))) := by
  obtain ⟨A, c, rfl, a1, a2, a3⟩ := h1.form
  obtain ⟨B, c', rfl, b1, b2, b3⟩ := h2.form
  refine calls_of_C Tryz.func14 rfl Tryz.ntmps14 (Nat.le_of_ble_eq_true rfl) ?_
  refine C.less (L' := [(0, _), (1, _)]) ?_ (Sub.cons rfl (Sub.cons rfl (Sub.nil _))) (fun w h => h)
  refine C.seq ?_
  refine C.region ?_
  refine J.asg rfl rfl rfl rfl rfl ?_
  refine J.nil ?_
  refine C.seq ?_
  refine C.seq ?_
  refine C.region ?_
  refine J.move rfl rfl rfl rfl rfl ?_
  refine J.len rfl rfl rfl rfl rfl Tryz.runUnderlying22 ?_
  refine J.move rfl rfl rfl rfl rfl ?_
  refine J.len rfl rfl rfl rfl rfl Tryz.runUnderlying22 ?_
  refine J.bin rfl rfl rfl rfl rfl rfl (fun w => rfl) ?_
  refine J.nil ?_
  refine C.cond rfl (fun h => ?_) (fun h => ?_)
  · have h : xs.length ≠ ys.length := by simp at h; omega
    rw [dec_f (show ¬ xs = ys from fun e => h (by rw [e]))]
    refine C.seq ?_
    refine C.region ?_
    refine J.asg rfl rfl rfl rfl rfl ?_
    refine J.nil ?_
    refine C.ret ?_
    exact fin1 rfl (RV.tmp rfl) (fun w' h => h.ret0)
  · have h : xs.length = ys.length := by simp at h; omega
    refine C.skip ?_
    refine C.seq ?_
    refine C.seq ?_
    refine C.region ?_
    refine J.asg rfl rfl rfl rfl rfl ?_
    refine J.nil ?_
    refine C.block ?_
    refine C.loop (σ := Nat) (fun i => i ≤ xs.length ∧ xs.take i = ys.take i) (fun i => [(0, .slice A xs.length c), (1, .slice B ys.length c'), (5, vi (i : Int))]) (fun i => []) (fun i => xs.length - i) 0 ⟨Nat.zero_le _, rfl⟩ ?_ ?_ ?_
    · exact (Sub.cons rfl (Sub.cons rfl (Sub.cons rfl (Sub.nil _))))
    · exact fun w h => h
    rintro i ⟨hi, hpre⟩
    dsimp only
    refine C.seq ?_
    refine C.seq ?_
    refine C.region ?_
    refine J.move rfl rfl rfl rfl rfl ?_
    refine J.move rfl rfl rfl rfl rfl ?_
    refine J.len rfl rfl rfl rfl rfl Tryz.runUnderlying22 ?_
    refine J.bin rfl rfl rfl rfl rfl rfl (fun w => rfl) ?_
    refine J.nil ?_
    refine C.cond rfl (fun h5 => ?_) (fun h5 => ?_)
    · have hlt : i < xs.length := by have := of_decide_eq_true h5; omega
      obtain ⟨x, hx⟩ : ∃ x, xs[i]? = some x := ⟨_, List.getElem?_eq_getElem hlt⟩
      obtain ⟨y, hy⟩ : ∃ y, ys[i]? = some y := ⟨_, List.getElem?_eq_getElem (by omega)⟩
      obtain ⟨ba, oa, rfl, -, ha⟩ := a3 (by omega)
      obtain ⟨bb, ob, rfl, -, hb⟩ := b3 (by omega)
      refine C.skip ?_
      refine C.seq ?_
      refine C.block ?_
      refine C.seq ?_
      refine C.regionD0 9 (by kernel_rfl) ?_
      refine JD.take 0 rfl rfl rfl rfl (by kernel_rfl) (fun w h => h) (R.move rfl rfl) ?_
      refine JD.take 1 rfl rfl rfl rfl (by kernel_rfl) (fun w h => h) (R.move rfl rfl) ?_
      refine JD.take 2 rfl rfl rfl rfl (by kernel_rfl) (fun w h => h) (by first | exact (R.idx1 rfl rfl rfl Tryz.runUnderlying22 Tryz.sizeOf5 (by omega)) | exact (R.idx rfl rfl rfl Tryz.runUnderlying22 Tryz.sizeOf5 (by omega))) ?_
      refine JD.take 4 rfl rfl rfl rfl (by kernel_rfl) (fun w h => h) (R.move rfl rfl) ?_
      refine JD.take 5 rfl rfl rfl rfl (by kernel_rfl) (fun w h => h) (R.move rfl rfl) ?_
      refine JD.take 6 rfl rfl rfl rfl (by kernel_rfl) (fun w h => h) (by first | exact (R.idx1 rfl rfl rfl Tryz.runUnderlying22 Tryz.sizeOf5 (by omega)) | exact (R.idx rfl rfl rfl Tryz.runUnderlying22 Tryz.sizeOf5 (by omega))) ?_
      refine JD.take 3 rfl rfl rfl rfl (by kernel_rfl) (fun w h => h) (R.ld rfl rfl Tryz.isAgg5 (fun w h => cellOld h (ha i x hx))) ?_
      refine JD.take 7 rfl rfl rfl rfl (by kernel_rfl) (fun w h => h) (R.ld rfl rfl Tryz.isAgg5 (fun w h => cellOld h (hb i y hy))) ?_
      refine JD.take 8 rfl rfl rfl rfl (by kernel_rfl) (fun w h => h) (R.bin rfl rfl rfl (fun w => rfl)) ?_
      refine JD.done (by kernel_rfl) ?_
      rw [u8_ne]
      refine C.cond rfl (fun h6 => ?_) (fun h6 => ?_)
      · have h6 : x ≠ y := of_decide_eq_true h6
        rw [dec_f (show ¬ xs = ys from fun e => h6 (by rw [e] at hx; rw [hx] at hy; injection hy))]
        refine C.seq ?_
        refine C.region ?_
        refine J.asg rfl rfl rfl rfl rfl ?_
        refine J.nil ?_
        refine C.ret ?_
        exact fin1 rfl (RV.tmp rfl) (fun w' h => h.ret0)
      · have h6 : x = y := by simpa using h6
        refine C.skip ?_
        refine C.region ?_
        refine J.move rfl rfl rfl rfl rfl ?_
        refine J.bin rfl rfl rfl rfl rfl rfl (fun w => ra_add (by omega)) ?_
        refine J.asg rfl rfl rfl rfl rfl ?_
        refine J.nil ?_
        exact ⟨rfl, i + 1, ⟨hlt, by rw [take_snoc hx, take_snoc hy, hpre, h6]⟩, by omega, (Sub.cons rfl (Sub.cons rfl (Sub.cons rfl (Sub.nil _)))), fun w h => h⟩
    · have hge : i = xs.length := by have := of_decide_eq_false h5; omega
      subst hge
      rw [List.take_length, List.take_of_length_le (by omega)] at hpre
      rw [dec_t hpre]
      refine C.exit rfl ?_
      refine C.seq ?_
      refine C.region ?_
      refine J.asg rfl rfl rfl rfl rfl ?_
      refine J.nil ?_
      refine C.ret ?_
      exact fin1 rfl (RV.tmp rfl) (fun w' h => h.ret0)
theorem SameLists_calls (w : World) (v1 v2 : Value) (xs ys : List (List UInt8)) (h1 : BSA w v1 xs) (h2 : BSA w v2 ys) : Calls Tryz.prog 48 #[v1, v2] w (Ret0 w (.bool (decide (xs = ys)))) := by
  obtain ⟨A, c, rfl, a1, a2, a3⟩ := h1.form
  obtain ⟨B, c', rfl, b1, b2, b3⟩ := h2.form
  refine calls_of_C Tryz.func48 rfl Tryz.ntmps48 (Nat.le_of_ble_eq_true rfl) ?_
  refine C.less (L' := [(0, _), (1, _)]) ?_ (Sub.cons rfl (Sub.cons rfl (Sub.nil _))) (fun w h => h)
  refine C.seq ?_
  refine C.region ?_
  refine J.asg rfl rfl rfl rfl rfl ?_
  refine J.nil ?_
  refine C.seq ?_
  refine C.seq ?_
  refine C.region ?_
  refine J.move rfl rfl rfl rfl rfl ?_
  refine J.len rfl rfl rfl rfl rfl Tryz.runUnderlying44 ?_
  refine J.move rfl rfl rfl rfl rfl ?_
  refine J.len rfl rfl rfl rfl rfl Tryz.runUnderlying44 ?_
  refine J.bin rfl rfl rfl rfl rfl rfl (fun w => rfl) ?_
  refine J.nil ?_
  refine C.cond rfl (fun h => ?_) (fun h => ?_)
  · have h : xs.length ≠ ys.length := by simp at h; omega
    rw [dec_f (show ¬ xs = ys from fun e => h (by rw [e]))]
    refine C.seq ?_
    refine C.region ?_
    refine J.asg rfl rfl rfl rfl rfl ?_
    refine J.nil ?_
    refine C.ret ?_
    exact fin1 rfl (RV.tmp rfl) (fun w' h => h.ret0)
  · have h : xs.length = ys.length := by simp at h; omega
    refine C.skip ?_
    refine C.seq ?_
    refine C.seq ?_
    refine C.region ?_
    refine J.asg rfl rfl rfl rfl rfl ?_
    refine J.nil ?_
    refine C.block ?_
    refine C.loop (σ := Nat) (fun i => i ≤ xs.length ∧ xs.take i = ys.take i) (fun i => [(0, .slice A xs.length c), (1, .slice B ys.length c'), (5, vi (i : Int))]) (fun i => []) (fun i => xs.length - i) 0 ⟨Nat.zero_le _, rfl⟩ ?_ ?_ ?_
    · exact (Sub.cons rfl (Sub.cons rfl (Sub.cons rfl (Sub.nil _))))
    · exact fun w h => h
    rintro i ⟨hi, hpre⟩
    dsimp only
    refine C.seq ?_
    refine C.seq ?_
    refine C.region ?_
    refine J.move rfl rfl rfl rfl rfl ?_
    refine J.move rfl rfl rfl rfl rfl ?_
    refine J.len rfl rfl rfl rfl rfl Tryz.runUnderlying44 ?_
    refine J.bin rfl rfl rfl rfl rfl rfl (fun w => rfl) ?_
    refine J.nil ?_
    refine C.cond rfl (fun h5 => ?_) (fun h5 => ?_)
    · have hlt : i < xs.length := by have := of_decide_eq_true h5; omega
      obtain ⟨x, hx⟩ : ∃ x, xs[i]? = some x := ⟨_, List.getElem?_eq_getElem hlt⟩
      obtain ⟨y, hy⟩ : ∃ y, ys[i]? = some y := ⟨_, List.getElem?_eq_getElem (by omega)⟩
      obtain ⟨ba, oa, rfl, -, ha⟩ := a3 (by omega)
      obtain ⟨bb, ob, rfl, -, hb⟩ := b3 (by omega)
      obtain ⟨u, hu, hru⟩ := ha i x hx
      obtain ⟨v, hv, hrv⟩ := hb i y hy
      refine C.skip ?_
      refine C.seq ?_
      refine C.block ?_
      refine C.seq ?_
      refine C.regionD0 10 (by kernel_rfl) ?_
      refine JD.take 0 rfl rfl rfl rfl (by kernel_rfl) (fun w h => h) (R.move rfl rfl) ?_
      refine JD.take 1 rfl rfl rfl rfl (by kernel_rfl) (fun w h => h) (R.move rfl rfl) ?_
      refine JD.take 2 rfl rfl rfl rfl (by kernel_rfl) (fun w h => h) (by first | exact (R.idx1 rfl rfl rfl Tryz.runUnderlying44 Tryz.sizeOf22 (by omega)) | exact (R.idx rfl rfl rfl Tryz.runUnderlying44 Tryz.sizeOf22 (by omega))) ?_
      refine JD.take 4 rfl rfl rfl rfl (by kernel_rfl) (fun w h => h) (R.move rfl rfl) ?_
      refine JD.take 5 rfl rfl rfl rfl (by kernel_rfl) (fun w h => h) (R.move rfl rfl) ?_
      refine JD.take 6 rfl rfl rfl rfl (by kernel_rfl) (fun w h => h) (by first | exact (R.idx1 rfl rfl rfl Tryz.runUnderlying44 Tryz.sizeOf22 (by omega)) | exact (R.idx rfl rfl rfl Tryz.runUnderlying44 Tryz.sizeOf22 (by omega))) ?_
      refine JD.take 3 rfl rfl rfl rfl (by kernel_rfl) (fun w h => h) (R.ld rfl rfl Tryz.isAgg22 (fun w h => cellOld h hu)) ?_
      refine JD.take 7 rfl rfl rfl rfl (by kernel_rfl) (fun w h => h) (R.ld rfl rfl Tryz.isAgg22 (fun w h => cellOld h hv)) ?_
      refine JD.step 8 rfl (by kernel_rfl) ?_
      refine J.call0 rfl rfl rfl rfl rfl Tryz.call14 (fun w h => SameBytes_calls w u v x y (h.ba hru) (h.ba hrv)) ?_
      refine J.nil ⟨(fun _ w h => h), ?_⟩
      refine JD.take 9 rfl rfl rfl rfl (by kernel_rfl) (fun w h => h) (R.not rfl rfl) ?_
      refine JD.done (by kernel_rfl) ?_
      rcases Decidable.em (x = y) with h6 | h6
      · rw [dec_t h6]
        refine C.cond_f rfl ?_
        refine C.skip ?_
        refine C.region ?_
        refine J.move rfl rfl rfl rfl rfl ?_
        refine J.bin rfl rfl rfl rfl rfl rfl (fun w => ra_add (by omega)) ?_
        refine J.asg rfl rfl rfl rfl rfl ?_
        refine J.nil ?_
        exact ⟨rfl, i + 1, ⟨hlt, by rw [take_snoc hx, take_snoc hy, hpre, h6]⟩, by omega, (Sub.cons rfl (Sub.cons rfl (Sub.cons rfl (Sub.nil _)))), fun w h => h⟩
      · rw [dec_f h6]
        refine C.cond_t rfl ?_
        refine C.seq ?_
        refine C.region ?_
        refine J.asg rfl rfl rfl rfl rfl ?_
        refine J.nil ?_
        refine C.ret ?_
        rw [dec_f (show ¬ xs = ys from fun e => h6 (by rw [e] at hx; rw [hx] at hy; injection hy))]
        exact fin1 rfl (RV.tmp rfl) (fun w' h => h.ret0)
    · have hge : i = xs.length := by have := of_decide_eq_false h5; omega
      subst hge
      rw [List.take_length, List.take_of_length_le (by omega)] at hpre
      rw [dec_t hpre]
      refine C.exit rfl ?_
      refine C.seq ?_
      refine C.region ?_
      refine J.asg rfl rfl rfl rfl rfl ?_
      refine J.nil ?_
      refine C.ret ?_
      exact fin1 rfl (RV.tmp rfl) (fun w' h => h.ret0)
theorem CopyBytes_row (w : World) (v : Value) (xs : List UInt8) (hx : BA w v xs) (hs : xs.length ≤ 140737488355328) : Calls Tryz.prog 9 #[v] w (Ret w (PRow 5 xs)) := by
  obtain ⟨A, c, rfl, h1, h2, h3⟩ := hx.form
  refine calls_of_C Tryz.func9 rfl Tryz.ntmps9 (Nat.le_of_ble_eq_true rfl) ?_
  refine C.less (L' := [(0, _)]) ?_ (Sub.cons rfl (Sub.nil _)) (fun w h => h)
  refine C.seq ?_
  refine C.region ?_
  refine J.asg rfl rfl rfl rfl rfl ?_
  refine J.nil ?_
  refine C.seq ?_
  refine C.region ?_
  refine J.asg rfl rfl rfl rfl rfl ?_
  refine J.nil ?_
  refine C.seq ?_
  refine C.region ?_
  refine J.move rfl rfl rfl rfl rfl ?_
  refine J.move rfl rfl rfl rfl rfl ?_
  refine J.app0 rfl rfl rfl rfl rfl rfl Tryz.underlying22 inf5 rfl rfl rfl (news := xs.map vu8) (by simp) (fun w h hn => srcB (h.ba hx) hn) (all_u8 xs) (by omega) (fun v6 => ?_)
  refine J.asg rfl rfl rfl rfl rfl ?_
  refine J.nil ?_
  refine C.ret ?_
  exact fin1 rfl (RV.tmp rfl) (fun w' h => h.ret 0 rfl rfl)
theorem CopyLists_calls (w : World) (v : Value) (xs : List (List UInt8)) (h1 : BSA w v xs) (hl : xs.length ≤ 1048576) (hx : ∀ x ∈ xs, x.length ≤ 1048576) : Calls Tryz.prog 41 #[v] w (Ret w (fun v r => ∃ A c fp, v = .slice A xs.length c ∧ r = rbsR fp v xs)) := by
  obtain ⟨A, c, rfl, a1, a2, a3⟩ := h1.form
  refine calls_of_C Tryz.func41 rfl Tryz.ntmps41 (Nat.le_of_ble_eq_true rfl) ?_
  refine C.less (L' := [(0, _)]) ?_ (Sub.cons rfl (Sub.nil _)) (fun w h => h)
  refine C.seq ?_
  refine C.region ?_
  refine J.asg rfl rfl rfl rfl rfl ?_
  refine J.nil ?_
  refine C.seq ?_
  refine C.region ?_
  refine J.asg rfl rfl rfl rfl rfl ?_
  refine J.nil ?_
  refine C.seq ?_
  refine C.seq ?_
  refine C.region ?_
  refine J.asg rfl rfl rfl rfl rfl ?_
  refine J.nil ?_
  refine C.block ?_
  refine C.loop (σ := Nat × Value × List Value × (Nat → Prop)) (fun s => s.1 ≤ xs.length) (fun s => [(0, .slice A xs.length c), (3, s.2.1), (4, vi (s.1 : Int))]) (fun s => [rowR 22 1 s.2.1 s.1 s.2.2.1, mR s.2.2.2 s.2.2.1 (xs.take s.1)]) (fun s => xs.length - s.1) (0, .slice none 0 0, [], fun _ => False) (Nat.zero_le _) ?_ ?_ ?_
  · exact (Sub.cons rfl (Sub.cons rfl (Sub.cons rfl (Sub.nil _))))
  · exact fun w h => h.mnil.nilRow _ _
  rintro ⟨i, v, vs, fp⟩ hi
  dsimp only at hi ⊢
  refine C.seq ?_
  refine C.seq ?_
  refine C.region ?_
  refine J.move rfl rfl rfl rfl rfl ?_
  refine J.move rfl rfl rfl rfl rfl ?_
  refine J.len rfl rfl rfl rfl rfl Tryz.runUnderlying44 ?_
  refine J.bin rfl rfl rfl rfl rfl rfl (fun w => rfl) ?_
  refine J.nil ?_
  refine C.cond rfl (fun h => ?_) (fun h => ?_)
  · have hlt : i < xs.length := by have := of_decide_eq_true h; omega
    obtain ⟨x, hxi⟩ : ∃ x, xs[i]? = some x := ⟨_, List.getElem?_eq_getElem hlt⟩
    have hx64 := hx x (List.mem_of_getElem? hxi)
    obtain ⟨b, o, rfl, hb, hcell⟩ := a3 (by omega)
    obtain ⟨u, hu, hr⟩ := hcell i x hxi
    refine C.skip ?_
    refine C.seq ?_
    refine C.block ?_
    refine C.region ?_
    refine J.move rfl rfl rfl rfl rfl ?_
    refine J.move rfl rfl rfl rfl rfl ?_
    refine J.move rfl rfl rfl rfl rfl ?_
    first | refine J.idx1 rfl rfl rfl rfl rfl rfl Tryz.runUnderlying44 Tryz.sizeOf22 (by omega) ?_ | refine J.idx rfl rfl rfl rfl rfl rfl Tryz.runUnderlying44 Tryz.sizeOf22 (by omega) ?_
    refine J.ld rfl rfl rfl rfl rfl Tryz.isAgg22 (fun w h => cellOld h hu) ?_
    refine J.callr rfl rfl rfl rfl rfl Tryz.call9 (fun w h => CopyBytes_calls w u x (h.ba hr) (by omega))  ?_
    rintro v16 r16 ⟨Au, cu, fu, -, -, rfl, rfl⟩
    refine J.blds (vs := [_]) (cells := [_]) rfl rfl rfl rfl rfl Tryz.zeroValue22 Tryz.runUnderlying44 Tryz.sizeOf22 rfl rfl rfl rfl (fun b17 => ?_)
    refine J.app 2 rfl rfl rfl rfl rfl rfl Tryz.underlying44 inf22 rfl rfl rfl rfl (news := [.slice Au x.length cu]) rfl (fun w h hn => srcO h 0 rfl) rfl (by omega) (fun v18 => ?_)
    refine J.asg rfl rfl rfl rfl rfl ?_
    refine J.nil ?_
    refine C.region ?_
    refine J.move rfl rfl rfl rfl rfl ?_
    refine J.bin rfl rfl rfl rfl rfl rfl (fun w => ra_add (by omega)) ?_
    refine J.asg rfl rfl rfl rfl rfl ?_
    refine J.nil ?_
    refine ⟨rfl, (i + 1, v18, vs ++ [.slice Au x.length cu], fun b => fp b ∨ fu b), hlt, by dsimp only; omega, (Sub.cons rfl (Sub.cons rfl (Sub.cons rfl (Sub.nil _)))), fun w h => ?_⟩
    have g1 := (h.ord [1, 3, 2] (by decide)).msnoc
    rw [← take_snoc hxi] at g1
    exact g1.ord [1, 0] (by decide)
  · have hge : i = xs.length := by have := of_decide_eq_false h; omega
    subst hge
    rw [List.take_length]
    refine C.fact (fun w h => row_form (h.get 0 rfl)) ?_
    rintro ⟨A1, c1, rfl, -, -⟩
    refine C.exit rfl ?_
    refine C.seq ?_
    refine C.region ?_
    refine J.move rfl rfl rfl rfl rfl ?_
    refine J.asg rfl rfl rfl rfl rfl ?_
    refine J.nil ?_
    refine C.ret ?_
    exact fin1 rfl (RV.tmp rfl) (fun w' h => h.rbs_of.ret 0 rfl ⟨A1, c1, _, rfl, rfl⟩)
end Go.Proofs.YtiminmnmeknioaaGreatDoor

/- undercroftlaw03.Of, Alike. -/
set_option linter.unusedVariables false
namespace Go.Proofs.YtiminmnmeknioaaGreatDoor
open Go Go.RowKit

/-- A disk that is no larger than inputs may be. -/
def DkSmall (d : Dk) : Prop := d.secs.length ≤ 1048576 ∧ d.cache.length ≤ 1048576 ∧ (∀ x ∈ d.secs, x.length ≤ 1048576) ∧ ∀ x ∈ d.cache, x.2.length ≤ 1048576
/-- A disk to be read, in memory of the call's own. -/
def PRd2 (d : Dk) : Value → List Res → Prop := fun v Rs => ∃ A1 c1 A2 c2 fp1 fp2, Rs = [rbsR fp1 (.slice A1 d.secs.length c1) d.secs, rwsR fp2 (.slice A2 d.cache.length c2) d.cache] ∧ v = .agg #[.slice A1 d.secs.length c1, .slice A2 d.cache.length c2]
theorem Of_calls (w : World) (d : Dk) (sv cv : Value) (hs : BSA w sv d.secs) (hc : WSA w cv d.cache) (hd : DkSmall d) : Calls Tryz.prog 20 #[.agg #[sv, cv]] w (RetL No w (PRd2 d)) := by
  obtain ⟨hd1, hd2, hd3, hd4⟩ := hd
  have hs0 := hs
  obtain ⟨A, c, rfl, h1, h2, h3⟩ := hs.form
  obtain ⟨A2, c2, rfl, k1, k2, k3⟩ := hc.form
  refine calls_of_C Tryz.func20 rfl Tryz.ntmps20 (Nat.le_of_ble_eq_true rfl) ?_
  refine C.less (L' := [(0, _)]) ?_ (Sub.cons rfl (Sub.nil _)) (fun w h => h)
  refine C.seq ?_
  refine C.region ?_
  first | refine J.boxc rfl rfl rfl rfl rfl rfl (fun b1 => ?_) | refine J.box rfl rfl rfl rfl rfl (fun b1 => ?_)
  refine J.allocc rfl rfl rfl rfl Tryz.zeroValue50 rfl (fun b2 => ?_)
  refine J.nil ?_
  refine C.seq ?_
  refine C.region ?_
  refine J.fld (k := 0) rfl rfl rfl rfl rfl Tryz.runUnderlying47 rfl rfl Tryz.sizeOf44 ?_
  refine J.ldo 1 rfl rfl rfl rfl rfl Tryz.isAgg44 rfl rfl ?_
  refine J.callr rfl rfl rfl rfl rfl Tryz.call41 (fun w h => CopyLists_calls w _ d.secs (h.bsa hs0) hd1 hd3)  ?_
  rintro v7 r7 ⟨A7, c7, f7, rfl, rfl⟩
  refine J.bld (pl := #[(0, 1), (1, 1)]) (cells := #[_, _]) rfl rfl rfl rfl rfl Tryz.zeroValue50 Tryz.runUnderlying50 (fun w => by kernel_rfl) rfl ?_
  refine J.allocc rfl rfl rfl rfl Tryz.zeroValue50 rfl (fun b3 => ?_)
  first | refine J.stwc 0 rfl rfl rfl rfl rfl rfl Tryz.sizeOf50 (by first | rfl | assumption | simp [Value.cells, Value.oneCell']) rfl rfl ?_ | refine J.stw 0 rfl rfl rfl rfl rfl rfl Tryz.sizeOf50 (by first | rfl | assumption | simp [Value.cells, Value.oneCell']) rfl rfl ?_
  refine J.nil ?_
  refine C.seq ?_
  refine C.seq ?_
  refine C.region ?_
  refine J.asg rfl rfl rfl rfl rfl ?_
  refine J.nil ?_
  refine C.block ?_
  refine C.loop (σ := Nat × Value × List Value × (Nat → Prop)) (fun s => s.1 ≤ d.cache.length ∧ s.2.2.1.length = s.1) (fun s => [(1, .pointer (some ⟨b1, 0, none⟩)), (2, .pointer (some ⟨b2, 0, none⟩)), (3, .pointer (some ⟨b3, 0, none⟩)), (4, vi (s.1 : Int))]) (fun s => [rowR 90 2 s.2.1 s.1 (wcells (d.cache.take s.1) s.2.2.1), mR s.2.2.2 s.2.2.1 ((d.cache.take s.1).map (·.2)), blk b3 #[.slice A7 d.secs.length c7, s.2.1] 50, blk b1 #[.slice A d.secs.length c, .slice A2 d.cache.length c2] 47, rbsR f7 (.slice A7 d.secs.length c7) d.secs, blk b2 #[.slice none 0 0, .slice none 0 0] 50]) (fun s => d.cache.length - s.1) (0, .slice none 0 0, [], fun _ => False) ⟨Nat.zero_le _, rfl⟩ ?_ ?_ ?_
  · exact (Sub.cons rfl (Sub.cons rfl (Sub.cons rfl (Sub.cons rfl (Sub.nil _)))))
  · exact fun w h => (h.mnil.nilRow _ _).ord [0, 1, 2, 5, 3, 4] (by decide)
  rintro ⟨i, v, us, fq⟩ ⟨hi, hul⟩
  dsimp only at hi hul ⊢
  refine C.seq ?_
  refine C.seq ?_
  refine C.region ?_
  refine J.move rfl rfl rfl rfl rfl ?_
  refine J.fld (k := 1) rfl rfl rfl rfl rfl Tryz.runUnderlying47 rfl rfl Tryz.sizeOf45 ?_
  refine J.ldo 3 rfl rfl rfl rfl rfl Tryz.isAgg45 rfl rfl ?_
  refine J.len rfl rfl rfl rfl rfl Tryz.runUnderlying45 ?_
  refine J.bin rfl rfl rfl rfl rfl rfl (fun w => rfl) ?_
  refine J.nil ?_
  refine C.cond rfl (fun h => ?_) (fun h => ?_)
  · have hlt : i < d.cache.length := by have := of_decide_eq_true h; omega
    obtain ⟨x, hx⟩ : ∃ x, d.cache[i]? = some x := ⟨_, List.getElem?_eq_getElem hlt⟩
    have hx64 := hd4 x (List.mem_of_getElem? hx)
    obtain ⟨b, o, rfl, hb, hcell⟩ := k3 (by omega)
    obtain ⟨u, hu0, hu1, hr⟩ := hcell i x hx
    refine C.skip ?_
    refine C.seq ?_
    refine C.block ?_
    refine C.regionD (fun w' => St No w [blk b3 #[.slice A7 d.secs.length c7, v] 50, blk b1 #[.slice A d.secs.length c, .slice (some ⟨b, o, none⟩) d.cache.length c2] 47] w') 19 (by kernel_rfl) ?_
    refine JD.take 0 rfl rfl rfl rfl (by kernel_rfl) (fun w h => ((by first | exact h.ord [2, 3] (by decide) | exact h.ord [3, 4] (by decide) | exact h.ord [4, 5] (by decide)))) (R.fld (k := 1) rfl rfl Tryz.runUnderlying50 rfl rfl Tryz.sizeOf48) ?_
    refine JD.take 1 rfl rfl rfl rfl (by kernel_rfl) (fun w h => ((by first | exact h.ord [2, 3] (by decide) | exact h.ord [3, 4] (by decide) | exact h.ord [4, 5] (by decide)))) (R.ld rfl rfl Tryz.isAgg48 (fun w h => cellL h 0 rfl rfl)) ?_
    refine JD.take 2 rfl rfl rfl rfl (by kernel_rfl) (fun w h => ((by first | exact h.ord [2, 3] (by decide) | exact h.ord [3, 4] (by decide) | exact h.ord [4, 5] (by decide)))) (R.fld (k := 1) rfl rfl Tryz.runUnderlying47 rfl rfl Tryz.sizeOf45) ?_
    refine JD.take 3 rfl rfl rfl rfl (by kernel_rfl) (fun w h => ((by first | exact h.ord [2, 3] (by decide) | exact h.ord [3, 4] (by decide) | exact h.ord [4, 5] (by decide)))) (R.ld rfl rfl Tryz.isAgg45 (fun w h => cellL h 1 rfl rfl)) ?_
    refine JD.take 4 rfl rfl rfl rfl (by kernel_rfl) (fun w h => ((by first | exact h.ord [2, 3] (by decide) | exact h.ord [3, 4] (by decide) | exact h.ord [4, 5] (by decide)))) (R.move rfl rfl) ?_
    refine JD.take 5 rfl rfl rfl rfl (by kernel_rfl) (fun w h => ((by first | exact h.ord [2, 3] (by decide) | exact h.ord [3, 4] (by decide) | exact h.ord [4, 5] (by decide)))) (by first | exact (R.idxn rfl rfl rfl Tryz.runUnderlying45 Tryz.sizeOf89 (by omega)) | exact (R.idx rfl rfl rfl Tryz.runUnderlying45 Tryz.sizeOf89 (by omega))) ?_
    refine JD.take 6 rfl rfl rfl rfl (by kernel_rfl) (fun w h => ((by first | exact h.ord [2, 3] (by decide) | exact h.ord [3, 4] (by decide) | exact h.ord [4, 5] (by decide)))) (R.fld (k := 0) rfl rfl Tryz.runUnderlying89 rfl rfl Tryz.sizeOf3) ?_
    refine JD.take 8 rfl rfl rfl rfl (by kernel_rfl) (fun w h => ((by first | exact h.ord [2, 3] (by decide) | exact h.ord [3, 4] (by decide) | exact h.ord [4, 5] (by decide)))) (R.fld (k := 1) rfl rfl Tryz.runUnderlying47 rfl rfl Tryz.sizeOf45) ?_
    refine JD.take 9 rfl rfl rfl rfl (by kernel_rfl) (fun w h => ((by first | exact h.ord [2, 3] (by decide) | exact h.ord [3, 4] (by decide) | exact h.ord [4, 5] (by decide)))) (R.ld rfl rfl Tryz.isAgg45 (fun w h => cellL h 1 rfl rfl)) ?_
    refine JD.take 10 rfl rfl rfl rfl (by kernel_rfl) (fun w h => ((by first | exact h.ord [2, 3] (by decide) | exact h.ord [3, 4] (by decide) | exact h.ord [4, 5] (by decide)))) (R.move rfl rfl) ?_
    refine JD.take 11 rfl rfl rfl rfl (by kernel_rfl) (fun w h => ((by first | exact h.ord [2, 3] (by decide) | exact h.ord [3, 4] (by decide) | exact h.ord [4, 5] (by decide)))) (by first | exact (R.idxn rfl rfl rfl Tryz.runUnderlying45 Tryz.sizeOf89 (by omega)) | exact (R.idx rfl rfl rfl Tryz.runUnderlying45 Tryz.sizeOf89 (by omega))) ?_
    refine JD.take 12 rfl rfl rfl rfl (by kernel_rfl) (fun w h => ((by first | exact h.ord [2, 3] (by decide) | exact h.ord [3, 4] (by decide) | exact h.ord [4, 5] (by decide)))) (R.fld (k := 1) rfl rfl Tryz.runUnderlying89 rfl rfl Tryz.sizeOf22) ?_
    refine JD.take 7 rfl rfl rfl rfl (by kernel_rfl) (fun w h => ((by first | exact h.ord [2, 3] (by decide) | exact h.ord [3, 4] (by decide) | exact h.ord [4, 5] (by decide)))) (R.ld rfl rfl Tryz.isAgg3 (fun w h => cellOld h hu0)) ?_
    refine JD.take 13 rfl rfl rfl rfl (by kernel_rfl) (fun w h => ((by first | exact h.ord [2, 3] (by decide) | exact h.ord [3, 4] (by decide) | exact h.ord [4, 5] (by decide)))) (R.ld rfl rfl Tryz.isAgg22 (fun w h => cellOld h hu1)) ?_
    refine JD.step 14 rfl (by kernel_rfl) ?_
    refine J.callr rfl rfl rfl rfl rfl Tryz.call9 (fun w h => CopyBytes_calls w _ x.2 (h.ba hr) (by omega))  ?_
    rintro v30 r30 ⟨Au, cu, fu, -, -, rfl, rfl⟩
    refine J.nil ⟨(fun _ w h => ((by first | exact h.ord [2, 3] (by decide) | exact h.ord [3, 4] (by decide) | exact h.ord [4, 5] (by decide)))), ?_⟩
    refine JD.take 15 rfl rfl rfl rfl (by kernel_rfl) (fun w h => ((by first | exact h.ord [2, 3] (by decide) | exact h.ord [3, 4] (by decide) | exact h.ord [4, 5] (by decide)))) (R.bld (pl := #[(0, 1), (1, 1)]) (cells := #[_, _]) rfl rfl Tryz.zeroValue90 Tryz.runUnderlying90 (fun w => by kernel_rfl) rfl) ?_
    refine JD.step 16 rfl (by kernel_rfl) ?_
    refine J.blds (vs := [_]) (cells := [_, _]) rfl rfl rfl rfl rfl Tryz.zeroValue90 Tryz.runUnderlying48 Tryz.sizeOf90 rfl rfl rfl rfl (fun b32 => ?_)
    refine J.nil ⟨(fun _ w h => ((by first | exact h.ord [2, 3] (by decide) | exact h.ord [3, 4] (by decide) | exact h.ord [4, 5] (by decide)))), ?_⟩
    refine JD.step 17 rfl (by kernel_rfl) ?_
    refine J.app 2 rfl rfl rfl rfl rfl rfl Tryz.underlying48 inf90 rfl rfl rfl rfl (news := [vi x.1, .slice Au x.2.length cu]) rfl (fun w h hn => srcO h 0 rfl) rfl (by omega) (fun v33 => ?_)
    refine J.fact (fun w h => row_form (h.get 2 rfl)) ?_
    rintro ⟨A22, c22, rfl, -, -⟩
    refine J.nil ⟨(fun _ w h => ((by first | exact h.ord [2, 3] (by decide) | exact h.ord [3, 4] (by decide) | exact h.ord [4, 5] (by decide)))), ?_⟩
    refine JD.take 18 rfl rfl rfl rfl (by kernel_rfl) (fun w h => ((by first | exact h.ord [2, 3] (by decide) | exact h.ord [3, 4] (by decide) | exact h.ord [4, 5] (by decide)))) (R.fld (k := 1) rfl rfl Tryz.runUnderlying50 rfl rfl Tryz.sizeOf48) ?_
    refine JD.step 19 rfl (by kernel_rfl) ?_
    refine J.st1 4 rfl rfl rfl rfl rfl rfl Tryz.sizeOf48 (by first | rfl | assumption | simp [Value.cells, Value.oneCell']) rfl rfl rfl ?_
    refine J.nil ⟨(fun h => by cases h), ?_⟩
    refine JD.done (by kernel_rfl) ?_
    refine C.region ?_
    refine J.move rfl rfl rfl rfl rfl ?_
    refine J.bin rfl rfl rfl rfl rfl rfl (fun w => ra_add (by omega)) ?_
    refine J.asg rfl rfl rfl rfl rfl ?_
    refine J.nil ?_
    refine ⟨rfl, (i + 1, .slice A22 (i + 1) c22, us ++ [.slice Au x.2.length cu], fun b => fq b ∨ fu b), ⟨hlt, by dsimp only; simp [hul]⟩, by dsimp only; omega, (Sub.cons rfl (Sub.cons rfl (Sub.cons rfl (Sub.cons rfl (Sub.nil _))))), fun w h => ?_⟩
    have g1 := (h.ord [1, 3, 2, 4, 5, 6, 7] (by decide)).msnoc
    dsimp only
    rw [take_snoc hx, wcells_snoc _ _ (by rw [hul, List.length_take]; omega), List.map_append]
    exact g1.ord [1, 0, 2, 3, 4, 5] (by decide)
  · have hge : i = d.cache.length := by have := of_decide_eq_false h; omega
    subst hge
    rw [List.take_length]
    refine C.fact (fun w h => row_form (h.get 0 rfl)) ?_
    rintro ⟨A5, c5, rfl, -, -⟩
    refine C.exit rfl ?_
    refine C.seq ?_
    refine C.region ?_
    refine J.ldw 2 rfl rfl rfl rfl rfl Tryz.isAgg50 rfl Tryz.sizeOf50 ?_
    first | refine J.stwc 5 rfl rfl rfl rfl rfl rfl Tryz.sizeOf50 (by first | rfl | assumption | simp [Value.cells, Value.oneCell']) rfl rfl ?_ | refine J.stw 5 rfl rfl rfl rfl rfl rfl Tryz.sizeOf50 (by first | rfl | assumption | simp [Value.cells, Value.oneCell']) rfl rfl ?_
    refine J.nil ?_
    refine C.ret ?_
    exact fin1 rfl (RV.cellw 5 rfl Tryz.isAgg50 rfl Tryz.sizeOf50) (fun w' h => (h.rws_of.ord [3, 0] (by decide)).retL (List.Sublist.refl _) ⟨A7, c7, A5, c5, f7, _, rfl, rfl⟩)
def dkAlike (a b : Dk) : Int := if a.secs = b.secs ∧ a.cache = b.cache then 0 else 1
theorem Alike_calls (w : World) (a b : Dk) (sv cv sv2 cv2 : Value) (hs : BSA w sv a.secs) (hc : WSA w cv a.cache) (hs2 : BSA w sv2 b.secs) (hc2 : WSA w cv2 b.cache) : Calls Tryz.prog 25 #[.agg #[sv, cv], .agg #[sv2, cv2]] w (Ret0 w (vi (dkAlike a b))) := by
  have hs0 := hs
  have hs20 := hs2
  obtain ⟨A, c, rfl, -, -, -⟩ := hs.form
  obtain ⟨B, c', rfl, -, -, -⟩ := hs2.form
  obtain ⟨A2, c2, rfl, a1, a2, a3⟩ := hc.form
  obtain ⟨B2, c2', rfl, b1', b2', b3'⟩ := hc2.form
  refine calls_of_C Tryz.func25 rfl Tryz.ntmps25 (Nat.le_of_ble_eq_true rfl) ?_
  refine C.less (L' := [(0, _), (1, _)]) ?_ (Sub.cons rfl (Sub.cons rfl (Sub.nil _))) (fun w h => h)
  refine C.seq ?_
  refine C.region ?_
  first | refine J.boxc rfl rfl rfl rfl rfl rfl (fun b2 => ?_) | refine J.box rfl rfl rfl rfl rfl (fun b2 => ?_)
  first | refine J.boxc rfl rfl rfl rfl rfl rfl (fun b3 => ?_) | refine J.box rfl rfl rfl rfl rfl (fun b3 => ?_)
  refine J.asg rfl rfl rfl rfl rfl ?_
  refine J.nil ?_
  refine C.seq ?_
  refine C.seq ?_
  refine C.region ?_
  refine J.fld (k := 0) rfl rfl rfl rfl rfl Tryz.runUnderlying50 rfl rfl Tryz.sizeOf44 ?_
  refine J.ldo 1 rfl rfl rfl rfl rfl Tryz.isAgg44 rfl rfl ?_
  refine J.fld (k := 0) rfl rfl rfl rfl rfl Tryz.runUnderlying47 rfl rfl Tryz.sizeOf44 ?_
  refine J.ldo 0 rfl rfl rfl rfl rfl Tryz.isAgg44 rfl rfl ?_
  refine J.call0 rfl rfl rfl rfl rfl Tryz.call48 (fun w h => SameLists_calls w _ _ a.secs b.secs (h.bsa hs0) (h.bsa hs20)) ?_
  refine J.not rfl rfl rfl rfl rfl ?_
  refine J.move rfl rfl rfl rfl rfl ?_
  rcases Decidable.em (a.secs = b.secs) with e1 | e1
  · rw [dec_t e1]
    refine J.want rfl rfl rfl rfl ?_
    refine J.fld (k := 1) rfl rfl rfl rfl rfl Tryz.runUnderlying50 rfl rfl Tryz.sizeOf48 ?_
    refine J.want rfl rfl rfl rfl ?_
    refine J.ldo 1 rfl rfl rfl rfl rfl Tryz.isAgg48 rfl rfl ?_
    refine J.want rfl rfl rfl rfl ?_
    refine J.len rfl rfl rfl rfl rfl Tryz.runUnderlying48 ?_
    refine J.want rfl rfl rfl rfl ?_
    refine J.fld (k := 1) rfl rfl rfl rfl rfl Tryz.runUnderlying47 rfl rfl Tryz.sizeOf45 ?_
    refine J.want rfl rfl rfl rfl ?_
    refine J.ldo 0 rfl rfl rfl rfl rfl Tryz.isAgg45 rfl rfl ?_
    refine J.want rfl rfl rfl rfl ?_
    refine J.len rfl rfl rfl rfl rfl Tryz.runUnderlying45 ?_
    refine J.want rfl rfl rfl rfl ?_
    refine J.bin rfl rfl rfl rfl rfl rfl (fun w => rfl) ?_
    refine J.pick rfl rfl rfl rfl rfl rfl ?_
    refine J.nil ?_
    refine C.cond rfl (fun h => ?_) (fun h => ?_)
    · have hne : ¬ (a.secs = b.secs ∧ a.cache = b.cache) := fun e => by rw [e.2] at h; simp at h
      refine C.seq ?_
      refine C.region ?_
      refine J.asg rfl rfl rfl rfl rfl ?_
      refine J.nil ?_
      refine C.ret ?_
      rw [show dkAlike a b = 1 by unfold dkAlike; rw [if_neg hne]]
      exact fin1 rfl (RV.tmp rfl) (fun w' h => h.ret0)
    · have h : a.cache.length = b.cache.length := by simp at h; omega
      refine C.skip ?_
      refine C.seq ?_
      refine C.seq ?_
      refine C.region ?_
      refine J.asg rfl rfl rfl rfl rfl ?_
      refine J.nil ?_
      refine C.block ?_
      refine C.loop (σ := Nat) (fun i => i ≤ a.cache.length ∧ a.cache.take i = b.cache.take i) (fun i => [(2, .pointer (some ⟨b2, 0, none⟩)), (3, .pointer (some ⟨b3, 0, none⟩)), (5, vi (i : Int))]) (fun i => [blk b3 #[.slice B b.secs.length c', .slice B2 b.cache.length c2'] 47, blk b2 #[.slice A a.secs.length c, .slice A2 a.cache.length c2] 50]) (fun i => a.cache.length - i) 0 ⟨Nat.zero_le _, rfl⟩ ?_ ?_ ?_
      · exact (Sub.cons rfl (Sub.cons rfl (Sub.cons rfl (Sub.nil _))))
      · exact fun w h => h
      rintro i ⟨hi, hpre⟩
      dsimp only
      refine C.seq ?_
      refine C.seq ?_
      refine C.region ?_
      refine J.move rfl rfl rfl rfl rfl ?_
      refine J.fld (k := 1) rfl rfl rfl rfl rfl Tryz.runUnderlying50 rfl rfl Tryz.sizeOf48 ?_
      refine J.ldo 1 rfl rfl rfl rfl rfl Tryz.isAgg48 rfl rfl ?_
      refine J.len rfl rfl rfl rfl rfl Tryz.runUnderlying48 ?_
      refine J.bin rfl rfl rfl rfl rfl rfl (fun w => rfl) ?_
      refine J.nil ?_
      refine C.cond rfl (fun h5 => ?_) (fun h5 => ?_)
      · have hlt : i < a.cache.length := by have := of_decide_eq_true h5; omega
        obtain ⟨x, hx⟩ : ∃ x, a.cache[i]? = some x := ⟨_, List.getElem?_eq_getElem hlt⟩
        obtain ⟨y, hy⟩ : ∃ y, b.cache[i]? = some y := ⟨_, List.getElem?_eq_getElem (by omega)⟩
        obtain ⟨ba, oa, rfl, -, ha⟩ := a3 (by omega)
        obtain ⟨bb, ob, rfl, -, hb⟩ := b3' (by omega)
        obtain ⟨u, hu0, hu1, hru⟩ := ha i x hx
        obtain ⟨v, hv0, hv1, hrv⟩ := hb i y hy
        refine C.skip ?_
        refine C.seq ?_
        refine C.block ?_
        refine C.seq ?_
        refine C.regionD0 29 (by kernel_rfl) ?_
        refine JD.take 0 rfl rfl rfl rfl (by kernel_rfl) (fun w h => h) (R.fld (k := 1) rfl rfl Tryz.runUnderlying50 rfl rfl Tryz.sizeOf48) ?_
        refine JD.take 1 rfl rfl rfl rfl (by kernel_rfl) (fun w h => h) (R.ld rfl rfl Tryz.isAgg48 (fun w h => cellL h 1 rfl rfl)) ?_
        refine JD.take 2 rfl rfl rfl rfl (by kernel_rfl) (fun w h => h) (R.move rfl rfl) ?_
        refine JD.take 3 rfl rfl rfl rfl (by kernel_rfl) (fun w h => h) (by first | exact (R.idxn rfl rfl rfl Tryz.runUnderlying48 Tryz.sizeOf90 (by omega)) | exact (R.idx rfl rfl rfl Tryz.runUnderlying48 Tryz.sizeOf90 (by omega))) ?_
        refine JD.take 4 rfl rfl rfl rfl (by kernel_rfl) (fun w h => h) (R.fld (k := 0) rfl rfl Tryz.runUnderlying90 rfl rfl Tryz.sizeOf3) ?_
        refine JD.take 6 rfl rfl rfl rfl (by kernel_rfl) (fun w h => h) (R.fld (k := 1) rfl rfl Tryz.runUnderlying47 rfl rfl Tryz.sizeOf45) ?_
        refine JD.take 7 rfl rfl rfl rfl (by kernel_rfl) (fun w h => h) (R.ld rfl rfl Tryz.isAgg45 (fun w h => cellL h 0 rfl rfl)) ?_
        refine JD.take 8 rfl rfl rfl rfl (by kernel_rfl) (fun w h => h) (R.move rfl rfl) ?_
        refine JD.take 9 rfl rfl rfl rfl (by kernel_rfl) (fun w h => h) (by first | exact (R.idxn rfl rfl rfl Tryz.runUnderlying45 Tryz.sizeOf89 (by omega)) | exact (R.idx rfl rfl rfl Tryz.runUnderlying45 Tryz.sizeOf89 (by omega))) ?_
        refine JD.take 10 rfl rfl rfl rfl (by kernel_rfl) (fun w h => h) (R.fld (k := 0) rfl rfl Tryz.runUnderlying89 rfl rfl Tryz.sizeOf3) ?_
        refine JD.take 5 rfl rfl rfl rfl (by kernel_rfl) (fun w h => h) (R.ld rfl rfl Tryz.isAgg3 (fun w h => cellOld h hu0)) ?_
        refine JD.take 11 rfl rfl rfl rfl (by kernel_rfl) (fun w h => h) (R.ld rfl rfl Tryz.isAgg3 (fun w h => cellOld h hv0)) ?_
        refine JD.take 12 rfl rfl rfl rfl (by kernel_rfl) (fun w h => h) (R.bin rfl rfl rfl (fun w => rfl)) ?_
        refine JD.take 13 rfl rfl rfl rfl (by kernel_rfl) (fun w h => h) (R.move rfl rfl) ?_
        rcases Decidable.em (x.1 = y.1) with e2 | e2
        · rw [show (x.1 != y.1) = false by simpa using e2]
          refine JD.takeT 14 rfl rfl rfl rfl (by kernel_rfl) (fun w h => h) rfl rfl rfl (R.fld (k := 1) rfl rfl Tryz.runUnderlying50 rfl rfl Tryz.sizeOf48) ?_
          refine JD.takeT 15 rfl rfl rfl rfl (by kernel_rfl) (fun w h => h) rfl rfl rfl (R.ld rfl rfl Tryz.isAgg48 (fun w h => cellL h 1 rfl rfl)) ?_
          refine JD.takeT 16 rfl rfl rfl rfl (by kernel_rfl) (fun w h => h) rfl rfl rfl (R.move rfl rfl) ?_
          refine JD.takeT 17 rfl rfl rfl rfl (by kernel_rfl) (fun w h => h) rfl rfl rfl (by first | exact (R.idxn rfl rfl rfl Tryz.runUnderlying48 Tryz.sizeOf90 (by omega)) | exact (R.idx rfl rfl rfl Tryz.runUnderlying48 Tryz.sizeOf90 (by omega))) ?_
          refine JD.takeT 18 rfl rfl rfl rfl (by kernel_rfl) (fun w h => h) rfl rfl rfl (R.fld (k := 1) rfl rfl Tryz.runUnderlying90 rfl rfl Tryz.sizeOf22) ?_
          refine JD.takeT 20 rfl rfl rfl rfl (by kernel_rfl) (fun w h => h) rfl rfl rfl (R.fld (k := 1) rfl rfl Tryz.runUnderlying47 rfl rfl Tryz.sizeOf45) ?_
          refine JD.takeT 21 rfl rfl rfl rfl (by kernel_rfl) (fun w h => h) rfl rfl rfl (R.ld rfl rfl Tryz.isAgg45 (fun w h => cellL h 0 rfl rfl)) ?_
          refine JD.takeT 22 rfl rfl rfl rfl (by kernel_rfl) (fun w h => h) rfl rfl rfl (R.move rfl rfl) ?_
          refine JD.takeT 23 rfl rfl rfl rfl (by kernel_rfl) (fun w h => h) rfl rfl rfl (by first | exact (R.idxn rfl rfl rfl Tryz.runUnderlying45 Tryz.sizeOf89 (by omega)) | exact (R.idx rfl rfl rfl Tryz.runUnderlying45 Tryz.sizeOf89 (by omega))) ?_
          refine JD.takeT 24 rfl rfl rfl rfl (by kernel_rfl) (fun w h => h) rfl rfl rfl (R.fld (k := 1) rfl rfl Tryz.runUnderlying89 rfl rfl Tryz.sizeOf22) ?_
          refine JD.takeT 19 rfl rfl rfl rfl (by kernel_rfl) (fun w h => h) rfl rfl rfl (R.ld rfl rfl Tryz.isAgg22 (fun w h => cellOld h hu1)) ?_
          refine JD.takeT 25 rfl rfl rfl rfl (by kernel_rfl) (fun w h => h) rfl rfl rfl (R.ld rfl rfl Tryz.isAgg22 (fun w h => cellOld h hv1)) ?_
          refine JD.step 26 rfl (by kernel_rfl) ?_
          refine J.want rfl rfl rfl rfl ?_
          refine J.call0 rfl rfl rfl rfl rfl Tryz.call14 (fun w h => SameBytes_calls w u v x.2 y.2 (h.ba hru) (h.ba hrv)) ?_
          refine J.nil ⟨(fun _ w h => h), ?_⟩
          refine JD.takeT 27 rfl rfl rfl rfl (by kernel_rfl) (fun w h => h) rfl rfl rfl (R.not rfl rfl) ?_
          refine JD.take 28 rfl rfl rfl rfl (by kernel_rfl) (fun w h => h) (R.pick rfl rfl rfl) ?_
          refine JD.done (by kernel_rfl) ?_
          rcases Decidable.em (x.2 = y.2) with e3 | e3
          · rw [dec_t e3]
            refine C.cond_f rfl ?_
            refine C.skip ?_
            refine C.region ?_
            refine J.move rfl rfl rfl rfl rfl ?_
            refine J.bin rfl rfl rfl rfl rfl rfl (fun w => ra_add (by omega)) ?_
            refine J.asg rfl rfl rfl rfl rfl ?_
            refine J.nil ?_
            exact ⟨rfl, i + 1, ⟨hlt, by rw [take_snoc hx, take_snoc hy, hpre, show x = y from Prod.ext e2 e3]⟩, by omega, (Sub.cons rfl (Sub.cons rfl (Sub.cons rfl (Sub.nil _)))), fun w h => h⟩
          · have hne : ¬ (a.secs = b.secs ∧ a.cache = b.cache) := fun e => by
              rw [e.2, hy] at hx
              injection hx with hx
              exact e3 (by rw [hx])
            rw [dec_f e3]
            refine C.cond_t rfl ?_
            refine C.seq ?_
            refine C.region ?_
            refine J.asg rfl rfl rfl rfl rfl ?_
            refine J.nil ?_
            refine C.ret ?_
            rw [show dkAlike a b = 1 by unfold dkAlike; rw [if_neg hne]]
            exact fin1 rfl (RV.tmp rfl) (fun w' h => h.ret0)
        · have hne : ¬ (a.secs = b.secs ∧ a.cache = b.cache) := fun e => by
            rw [e.2, hy] at hx
            injection hx with hx
            exact e2 (by rw [hx])
          rw [show (x.1 != y.1) = true by simpa using e2]
          refine JD.takeF 14 rfl rfl rfl rfl (by kernel_rfl) (fun w h => h) rfl rfl (by intro h; cases h) ?_
          refine JD.takeF 15 rfl rfl rfl rfl (by kernel_rfl) (fun w h => h) rfl rfl (by intro h; cases h) ?_
          refine JD.takeF 16 rfl rfl rfl rfl (by kernel_rfl) (fun w h => h) rfl rfl (by intro h; cases h) ?_
          refine JD.takeF 17 rfl rfl rfl rfl (by kernel_rfl) (fun w h => h) rfl rfl (by intro h; cases h) ?_
          refine JD.takeF 18 rfl rfl rfl rfl (by kernel_rfl) (fun w h => h) rfl rfl (by intro h; cases h) ?_
          refine JD.takeF 19 rfl rfl rfl rfl (by kernel_rfl) (fun w h => h) rfl rfl (by intro h; cases h) ?_
          refine JD.takeF 20 rfl rfl rfl rfl (by kernel_rfl) (fun w h => h) rfl rfl (by intro h; cases h) ?_
          refine JD.takeF 21 rfl rfl rfl rfl (by kernel_rfl) (fun w h => h) rfl rfl (by intro h; cases h) ?_
          refine JD.takeF 22 rfl rfl rfl rfl (by kernel_rfl) (fun w h => h) rfl rfl (by intro h; cases h) ?_
          refine JD.takeF 23 rfl rfl rfl rfl (by kernel_rfl) (fun w h => h) rfl rfl (by intro h; cases h) ?_
          refine JD.takeF 24 rfl rfl rfl rfl (by kernel_rfl) (fun w h => h) rfl rfl (by intro h; cases h) ?_
          refine JD.takeF 25 rfl rfl rfl rfl (by kernel_rfl) (fun w h => h) rfl rfl (by intro h; cases h) ?_
          refine JD.takeF 26 rfl rfl rfl rfl (by kernel_rfl) (fun w h => h) rfl rfl (by intro h; cases h) ?_
          refine JD.takeF 27 rfl rfl rfl rfl (by kernel_rfl) (fun w h => h) rfl rfl (by intro h; cases h) ?_
          refine JD.take 28 rfl rfl rfl rfl (by kernel_rfl) (fun w h => h) (R.pick rfl rfl rfl) ?_
          refine JD.done (by kernel_rfl) ?_
          refine C.cond_t rfl ?_
          refine C.seq ?_
          refine C.region ?_
          refine J.asg rfl rfl rfl rfl rfl ?_
          refine J.nil ?_
          refine C.ret ?_
          rw [show dkAlike a b = 1 by unfold dkAlike; rw [if_neg hne]]
          exact fin1 rfl (RV.tmp rfl) (fun w' h => h.ret0)
      · have hge : i = a.cache.length := by have := of_decide_eq_false h5; omega
        subst hge
        rw [List.take_length, List.take_of_length_le (by omega)] at hpre
        rw [show dkAlike a b = 0 by unfold dkAlike; rw [if_pos ⟨e1, hpre⟩]]
        refine C.exit rfl ?_
        refine C.seq ?_
        refine C.region ?_
        refine J.asg rfl rfl rfl rfl rfl ?_
        refine J.nil ?_
        refine C.ret ?_
        exact fin1 rfl (RV.tmp rfl) (fun w' h => h.ret0)
  · have hne : ¬ (a.secs = b.secs ∧ a.cache = b.cache) := fun e => e1 e.1
    rw [dec_f e1]
    refine J.pass rfl rfl rfl rfl rfl (by intro h; cases h) ?_
    refine J.pass rfl rfl rfl rfl rfl (by intro h; cases h) ?_
    refine J.pass rfl rfl rfl rfl rfl (by intro h; cases h) ?_
    refine J.pass rfl rfl rfl rfl rfl (by intro h; cases h) ?_
    refine J.pass rfl rfl rfl rfl rfl (by intro h; cases h) ?_
    refine J.pass rfl rfl rfl rfl rfl (by intro h; cases h) ?_
    refine J.pass rfl rfl rfl rfl rfl (by intro h; cases h) ?_
    refine J.pick rfl rfl rfl rfl rfl rfl ?_
    refine J.nil ?_
    refine C.cond_t rfl ?_
    refine C.seq ?_
    refine C.region ?_
    refine J.asg rfl rfl rfl rfl rfl ?_
    refine J.nil ?_
    refine C.ret ?_
    rw [show dkAlike a b = 1 by unfold dkAlike; rw [if_neg hne]]
    exact fin1 rfl (RV.tmp rfl) (fun w' h => h.ret0)
end Go.Proofs.YtiminmnmeknioaaGreatDoor

/- undercroftlaw17.of, num, same; Spoil. -/
set_option linter.unusedVariables false
namespace Go.Proofs.YtiminmnmeknioaaGreatDoor
open Go Go.RowKit

theorem num_calls (w : World) (e : Int) : Calls Tryz.prog 15 #[vi e] w (Ret0 w (vi e)) := by
  refine calls_of_C Tryz.func15 rfl Tryz.ntmps15 (Nat.le_of_ble_eq_true rfl) ?_
  refine C.less (L' := [(0, _)]) ?_ (Sub.cons rfl (Sub.nil _)) (fun w h => h)
  refine C.seq ?_
  refine C.region ?_
  refine J.asg rfl rfl rfl rfl rfl ?_
  refine J.nil ?_
  refine C.seq ?_
  refine C.region ?_
  refine J.move rfl rfl rfl rfl rfl ?_
  refine J.asg rfl rfl rfl rfl rfl ?_
  refine J.nil ?_
  refine C.ret ?_
  exact fin1 rfl (RV.tmp rfl) (fun w' h => h.ret0)
def PPr (p : Pt) : Value → Res → Prop := fun v r => ∃ A c, v = .agg #[vi p.ep, vi p.sq, vi p.vw, vi p.cm, .slice A p.dt.length c] ∧ r = rowR 5 1 (.slice A p.dt.length c) p.dt.length (p.dt.map vu8)
theorem of_pt_calls (w : World) (p : Pt) (dv : Value) (hx : BA w dv p.dt) (hl : p.dt.length ≤ 140737488355328) : Calls Tryz.prog 8 #[.agg #[vi p.ep, vi p.sq, vi p.vw, vi p.cm, dv]] w (Ret w (PPr p)) := by
  have hx0 := hx
  obtain ⟨A, c, rfl, -, -, -⟩ := hx.form
  refine calls_of_C Tryz.func8 rfl Tryz.ntmps8 (Nat.le_of_ble_eq_true rfl) ?_
  refine C.less (L' := [(0, _)]) ?_ (Sub.cons rfl (Sub.nil _)) (fun w h => h)
  refine C.seq ?_
  refine C.region ?_
  first | refine J.boxc rfl rfl rfl rfl rfl rfl (fun b1 => ?_) | refine J.box rfl rfl rfl rfl rfl (fun b1 => ?_)
  refine J.allocc rfl rfl rfl rfl Tryz.zeroValue25 rfl (fun b2 => ?_)
  refine J.nil ?_
  refine C.seq ?_
  refine C.regionD0 12 (by kernel_rfl) ?_
  refine JD.take 0 rfl rfl rfl rfl (by kernel_rfl) (fun w h => h) (R.fld (k := 0) rfl rfl Tryz.runUnderlying24 rfl rfl Tryz.sizeOf3) ?_
  refine JD.take 1 rfl rfl rfl rfl (by kernel_rfl) (fun w h => h) (R.ld rfl rfl Tryz.isAgg3 (fun w h => cellL h 1 rfl rfl)) ?_
  refine JD.take 2 rfl rfl rfl rfl (by kernel_rfl) (fun w h => h) (R.fld (k := 1) rfl rfl Tryz.runUnderlying24 rfl rfl Tryz.sizeOf3) ?_
  refine JD.take 3 rfl rfl rfl rfl (by kernel_rfl) (fun w h => h) (R.ld rfl rfl Tryz.isAgg3 (fun w h => cellL h 1 rfl rfl)) ?_
  refine JD.take 4 rfl rfl rfl rfl (by kernel_rfl) (fun w h => h) (R.fld (k := 2) rfl rfl Tryz.runUnderlying24 rfl rfl Tryz.sizeOf3) ?_
  refine JD.take 5 rfl rfl rfl rfl (by kernel_rfl) (fun w h => h) (R.ld rfl rfl Tryz.isAgg3 (fun w h => cellL h 1 rfl rfl)) ?_
  refine JD.take 6 rfl rfl rfl rfl (by kernel_rfl) (fun w h => h) (R.fld (k := 3) rfl rfl Tryz.runUnderlying24 rfl rfl Tryz.sizeOf3) ?_
  refine JD.take 7 rfl rfl rfl rfl (by kernel_rfl) (fun w h => h) (R.ld rfl rfl Tryz.isAgg3 (fun w h => cellL h 1 rfl rfl)) ?_
  refine JD.take 8 rfl rfl rfl rfl (by kernel_rfl) (fun w h => h) (R.fld (k := 4) rfl rfl Tryz.runUnderlying24 rfl rfl Tryz.sizeOf22) ?_
  refine JD.take 9 rfl rfl rfl rfl (by kernel_rfl) (fun w h => h) (R.ld rfl rfl Tryz.isAgg22 (fun w h => cellL h 1 rfl rfl)) ?_
  refine JD.step 10 rfl (by kernel_rfl) ?_
  refine J.callr rfl rfl rfl rfl rfl Tryz.call9 (fun w h => CopyBytes_row w _ p.dt (h.ba hx0) hl)  ?_
  rintro v13 r13 rfl
  refine J.fact (fun w h => row_form (h.get 0 rfl)) ?_
  rintro ⟨A13, c13, rfl, -, -⟩
  refine J.nil ⟨(fun _ w h => (h.sub ((List.Sublist.refl _).cons _))), ?_⟩
  refine JD.take 11 rfl rfl rfl rfl (by kernel_rfl) (fun w h => (h.sub ((List.Sublist.refl _).cons _))) (R.bld (pl := #[(0, 1), (1, 1), (2, 1), (3, 1), (4, 1)]) (cells := #[_, _, _, _, _]) rfl rfl Tryz.zeroValue25 Tryz.runUnderlying25 (fun w => by kernel_rfl) rfl) ?_
  refine JD.step 12 rfl (by kernel_rfl) ?_
  first | refine J.stwc 1 rfl rfl rfl rfl rfl rfl Tryz.sizeOf25 (by first | rfl | assumption | simp [Value.cells, Value.oneCell']) rfl rfl ?_ | refine J.stw 1 rfl rfl rfl rfl rfl rfl Tryz.sizeOf25 (by first | rfl | assumption | simp [Value.cells, Value.oneCell']) rfl rfl ?_
  refine J.nil ⟨(fun h => by cases h), ?_⟩
  refine JD.done (by kernel_rfl) ?_
  refine C.ret ?_
  exact fin1 rfl (RV.cellw 1 rfl Tryz.isAgg25 rfl Tryz.sizeOf25) (fun w' h => h.ret 0 rfl ⟨A13, c13, rfl, rfl⟩)
def ptEq (a b : Pt) : Bool := decide (a.ep = b.ep) && decide (a.sq = b.sq) && decide (a.vw = b.vw) && decide (a.cm = b.cm) && decide (a.dt = b.dt)
theorem ptEq_refl (a : Pt) : ptEq a a = true := by unfold ptEq; simp
theorem beq_dec (a b : Int) : (a == b) = decide (a = b) := rfl
theorem same_calls (w : World) (a b : Pt) (v1 v2 : Value) (h1 : BA w v1 a.dt) (h2 : BA w v2 b.dt) : Calls Tryz.prog 16 #[.agg #[vi a.ep, vi a.sq, vi a.vw, vi a.cm, v1], .agg #[vi b.ep, vi b.sq, vi b.vw, vi b.cm, v2]] w (Ret0 w (.bool (ptEq a b))) := by
  have h10 := h1
  have h20 := h2
  obtain ⟨A, c, rfl, -, -, -⟩ := h1.form
  obtain ⟨B, c', rfl, -, -, -⟩ := h2.form
  refine calls_of_C Tryz.func16 rfl Tryz.ntmps16 (Nat.le_of_ble_eq_true rfl) ?_
  refine C.less (L' := [(0, _), (1, _)]) ?_ (Sub.cons rfl (Sub.cons rfl (Sub.nil _))) (fun w h => h)
  refine C.seq ?_
  refine C.region ?_
  first | refine J.boxc rfl rfl rfl rfl rfl rfl (fun b2 => ?_) | refine J.box rfl rfl rfl rfl rfl (fun b2 => ?_)
  first | refine J.boxc rfl rfl rfl rfl rfl rfl (fun b3 => ?_) | refine J.box rfl rfl rfl rfl rfl (fun b3 => ?_)
  refine J.asg rfl rfl rfl rfl rfl ?_
  refine J.nil ?_
  refine C.seq ?_
  refine C.region ?_
  refine J.fld (k := 0) rfl rfl rfl rfl rfl Tryz.runUnderlying25 rfl rfl Tryz.sizeOf3 ?_
  refine J.ldo 1 rfl rfl rfl rfl rfl Tryz.isAgg3 rfl rfl ?_
  refine J.fld (k := 0) rfl rfl rfl rfl rfl Tryz.runUnderlying24 rfl rfl Tryz.sizeOf3 ?_
  refine J.ldo 0 rfl rfl rfl rfl rfl Tryz.isAgg3 rfl rfl ?_
  refine J.bin rfl rfl rfl rfl rfl rfl (fun w => rfl) ?_
  refine J.move rfl rfl rfl rfl rfl ?_
  rw [beq_dec]
  rcases Decidable.em (a.ep = b.ep) with e1 | hno
  · rw [dec_t e1]
    refine J.want rfl rfl rfl rfl ?_
    refine J.fld (k := 1) rfl rfl rfl rfl rfl Tryz.runUnderlying25 rfl rfl Tryz.sizeOf3 ?_
    refine J.want rfl rfl rfl rfl ?_
    refine J.ldo 1 rfl rfl rfl rfl rfl Tryz.isAgg3 rfl rfl ?_
    refine J.want rfl rfl rfl rfl ?_
    refine J.fld (k := 1) rfl rfl rfl rfl rfl Tryz.runUnderlying24 rfl rfl Tryz.sizeOf3 ?_
    refine J.want rfl rfl rfl rfl ?_
    refine J.ldo 0 rfl rfl rfl rfl rfl Tryz.isAgg3 rfl rfl ?_
    refine J.want rfl rfl rfl rfl ?_
    refine J.bin rfl rfl rfl rfl rfl rfl (fun w => rfl) ?_
    refine J.pick rfl rfl rfl rfl rfl rfl ?_
    refine J.move rfl rfl rfl rfl rfl ?_
    rw [beq_dec]
    rcases Decidable.em (a.sq = b.sq) with e2 | hno
    · rw [dec_t e2]
      refine J.want rfl rfl rfl rfl ?_
      refine J.fld (k := 2) rfl rfl rfl rfl rfl Tryz.runUnderlying25 rfl rfl Tryz.sizeOf3 ?_
      refine J.want rfl rfl rfl rfl ?_
      refine J.ldo 1 rfl rfl rfl rfl rfl Tryz.isAgg3 rfl rfl ?_
      refine J.want rfl rfl rfl rfl ?_
      refine J.fld (k := 2) rfl rfl rfl rfl rfl Tryz.runUnderlying24 rfl rfl Tryz.sizeOf3 ?_
      refine J.want rfl rfl rfl rfl ?_
      refine J.ldo 0 rfl rfl rfl rfl rfl Tryz.isAgg3 rfl rfl ?_
      refine J.want rfl rfl rfl rfl ?_
      refine J.bin rfl rfl rfl rfl rfl rfl (fun w => rfl) ?_
      refine J.pick rfl rfl rfl rfl rfl rfl ?_
      refine J.move rfl rfl rfl rfl rfl ?_
      rw [beq_dec]
      rcases Decidable.em (a.vw = b.vw) with e3 | hno
      · rw [dec_t e3]
        refine J.want rfl rfl rfl rfl ?_
        refine J.fld (k := 3) rfl rfl rfl rfl rfl Tryz.runUnderlying25 rfl rfl Tryz.sizeOf3 ?_
        refine J.want rfl rfl rfl rfl ?_
        refine J.ldo 1 rfl rfl rfl rfl rfl Tryz.isAgg3 rfl rfl ?_
        refine J.want rfl rfl rfl rfl ?_
        refine J.fld (k := 3) rfl rfl rfl rfl rfl Tryz.runUnderlying24 rfl rfl Tryz.sizeOf3 ?_
        refine J.want rfl rfl rfl rfl ?_
        refine J.ldo 0 rfl rfl rfl rfl rfl Tryz.isAgg3 rfl rfl ?_
        refine J.want rfl rfl rfl rfl ?_
        refine J.bin rfl rfl rfl rfl rfl rfl (fun w => rfl) ?_
        refine J.pick rfl rfl rfl rfl rfl rfl ?_
        refine J.move rfl rfl rfl rfl rfl ?_
        rw [beq_dec]
        rcases Decidable.em (a.cm = b.cm) with e4 | hno
        · rw [dec_t e4]
          refine J.want rfl rfl rfl rfl ?_
          refine J.fld (k := 4) rfl rfl rfl rfl rfl Tryz.runUnderlying25 rfl rfl Tryz.sizeOf22 ?_
          refine J.want rfl rfl rfl rfl ?_
          refine J.ldo 1 rfl rfl rfl rfl rfl Tryz.isAgg22 rfl rfl ?_
          refine J.want rfl rfl rfl rfl ?_
          refine J.fld (k := 4) rfl rfl rfl rfl rfl Tryz.runUnderlying24 rfl rfl Tryz.sizeOf22 ?_
          refine J.want rfl rfl rfl rfl ?_
          refine J.ldo 0 rfl rfl rfl rfl rfl Tryz.isAgg22 rfl rfl ?_
          refine J.want rfl rfl rfl rfl ?_
          refine J.call0 rfl rfl rfl rfl rfl Tryz.call14 (fun w h => SameBytes_calls w _ _ a.dt b.dt (h.ba h10) (h.ba h20)) ?_
          refine J.pick rfl rfl rfl rfl rfl rfl ?_
          refine J.asg rfl rfl rfl rfl rfl ?_
          refine J.nil ?_
          refine C.ret ?_
          rw [show decide (a.dt = b.dt) = ptEq a b by unfold ptEq; simp [e1, e2, e3, e4]]
          exact fin1 rfl (RV.tmp rfl) (fun w' h => h.ret0)
        · rw [dec_f hno]
          refine J.pass rfl rfl rfl rfl rfl (by intro h; cases h) ?_
          refine J.pass rfl rfl rfl rfl rfl (by intro h; cases h) ?_
          refine J.pass rfl rfl rfl rfl rfl (by intro h; cases h) ?_
          refine J.pass rfl rfl rfl rfl rfl (by intro h; cases h) ?_
          refine J.pass rfl rfl rfl rfl rfl (by intro h; cases h) ?_
          refine J.pick rfl rfl rfl rfl rfl rfl ?_
          refine J.asg rfl rfl rfl rfl rfl ?_
          refine J.nil ?_
          refine C.ret ?_
          rw [show ptEq a b = false by unfold ptEq; simp [hno]]
          exact fin1 rfl (RV.tmp rfl) (fun w' h => h.ret0)
      · rw [dec_f hno]
        refine J.pass rfl rfl rfl rfl rfl (by intro h; cases h) ?_
        refine J.pass rfl rfl rfl rfl rfl (by intro h; cases h) ?_
        refine J.pass rfl rfl rfl rfl rfl (by intro h; cases h) ?_
        refine J.pass rfl rfl rfl rfl rfl (by intro h; cases h) ?_
        refine J.pass rfl rfl rfl rfl rfl (by intro h; cases h) ?_
        refine J.pick rfl rfl rfl rfl rfl rfl ?_
        refine J.move rfl rfl rfl rfl rfl ?_
        refine J.pass rfl rfl rfl rfl rfl (by intro h; cases h) ?_
        refine J.pass rfl rfl rfl rfl rfl (by intro h; cases h) ?_
        refine J.pass rfl rfl rfl rfl rfl (by intro h; cases h) ?_
        refine J.pass rfl rfl rfl rfl rfl (by intro h; cases h) ?_
        refine J.pass rfl rfl rfl rfl rfl (by intro h; cases h) ?_
        refine J.pick rfl rfl rfl rfl rfl rfl ?_
        refine J.asg rfl rfl rfl rfl rfl ?_
        refine J.nil ?_
        refine C.ret ?_
        rw [show ptEq a b = false by unfold ptEq; simp [hno]]
        exact fin1 rfl (RV.tmp rfl) (fun w' h => h.ret0)
    · rw [dec_f hno]
      refine J.pass rfl rfl rfl rfl rfl (by intro h; cases h) ?_
      refine J.pass rfl rfl rfl rfl rfl (by intro h; cases h) ?_
      refine J.pass rfl rfl rfl rfl rfl (by intro h; cases h) ?_
      refine J.pass rfl rfl rfl rfl rfl (by intro h; cases h) ?_
      refine J.pass rfl rfl rfl rfl rfl (by intro h; cases h) ?_
      refine J.pick rfl rfl rfl rfl rfl rfl ?_
      refine J.move rfl rfl rfl rfl rfl ?_
      refine J.pass rfl rfl rfl rfl rfl (by intro h; cases h) ?_
      refine J.pass rfl rfl rfl rfl rfl (by intro h; cases h) ?_
      refine J.pass rfl rfl rfl rfl rfl (by intro h; cases h) ?_
      refine J.pass rfl rfl rfl rfl rfl (by intro h; cases h) ?_
      refine J.pass rfl rfl rfl rfl rfl (by intro h; cases h) ?_
      refine J.pick rfl rfl rfl rfl rfl rfl ?_
      refine J.move rfl rfl rfl rfl rfl ?_
      refine J.pass rfl rfl rfl rfl rfl (by intro h; cases h) ?_
      refine J.pass rfl rfl rfl rfl rfl (by intro h; cases h) ?_
      refine J.pass rfl rfl rfl rfl rfl (by intro h; cases h) ?_
      refine J.pass rfl rfl rfl rfl rfl (by intro h; cases h) ?_
      refine J.pass rfl rfl rfl rfl rfl (by intro h; cases h) ?_
      refine J.pick rfl rfl rfl rfl rfl rfl ?_
      refine J.asg rfl rfl rfl rfl rfl ?_
      refine J.nil ?_
      refine C.ret ?_
      rw [show ptEq a b = false by unfold ptEq; simp [hno]]
      exact fin1 rfl (RV.tmp rfl) (fun w' h => h.ret0)
  · rw [dec_f hno]
    refine J.pass rfl rfl rfl rfl rfl (by intro h; cases h) ?_
    refine J.pass rfl rfl rfl rfl rfl (by intro h; cases h) ?_
    refine J.pass rfl rfl rfl rfl rfl (by intro h; cases h) ?_
    refine J.pass rfl rfl rfl rfl rfl (by intro h; cases h) ?_
    refine J.pass rfl rfl rfl rfl rfl (by intro h; cases h) ?_
    refine J.pick rfl rfl rfl rfl rfl rfl ?_
    refine J.move rfl rfl rfl rfl rfl ?_
    refine J.pass rfl rfl rfl rfl rfl (by intro h; cases h) ?_
    refine J.pass rfl rfl rfl rfl rfl (by intro h; cases h) ?_
    refine J.pass rfl rfl rfl rfl rfl (by intro h; cases h) ?_
    refine J.pass rfl rfl rfl rfl rfl (by intro h; cases h) ?_
    refine J.pass rfl rfl rfl rfl rfl (by intro h; cases h) ?_
    refine J.pick rfl rfl rfl rfl rfl rfl ?_
    refine J.move rfl rfl rfl rfl rfl ?_
    refine J.pass rfl rfl rfl rfl rfl (by intro h; cases h) ?_
    refine J.pass rfl rfl rfl rfl rfl (by intro h; cases h) ?_
    refine J.pass rfl rfl rfl rfl rfl (by intro h; cases h) ?_
    refine J.pass rfl rfl rfl rfl rfl (by intro h; cases h) ?_
    refine J.pass rfl rfl rfl rfl rfl (by intro h; cases h) ?_
    refine J.pick rfl rfl rfl rfl rfl rfl ?_
    refine J.move rfl rfl rfl rfl rfl ?_
    refine J.pass rfl rfl rfl rfl rfl (by intro h; cases h) ?_
    refine J.pass rfl rfl rfl rfl rfl (by intro h; cases h) ?_
    refine J.pass rfl rfl rfl rfl rfl (by intro h; cases h) ?_
    refine J.pass rfl rfl rfl rfl rfl (by intro h; cases h) ?_
    refine J.pass rfl rfl rfl rfl rfl (by intro h; cases h) ?_
    refine J.pick rfl rfl rfl rfl rfl rfl ?_
    refine J.asg rfl rfl rfl rfl rfl ?_
    refine J.nil ?_
    refine C.ret ?_
    rw [show ptEq a b = false by unfold ptEq; simp [hno]]
    exact fin1 rfl (RV.tmp rfl) (fun w' h => h.ret0)
/-- Octets written over. -/
def spoil (xs : List UInt8) : List UInt8 := xs.map (· ^^^ 85)
theorem Spoil_calls (w : World) (A : Option Addr) (n c : Nat) (xs : List UInt8) (hr : w.ownsRow 0 5 1 (.slice A n c) n (xs.map vu8)) : Calls Tryz.prog 27 #[.slice A n c] w (RetM (rowR 5 1 (.slice A n c) n (xs.map vu8)).fp w (fun u r => u = .tuple #[] ∧ r = rowR 5 1 (.slice A n c) n ((spoil xs).map vu8))) := by
  have hn : xs.length = n := by have := hr.1; simpa using this
  refine calls_of_Cm (mu := (rowR 5 1 (.slice A n c) n (xs.map vu8)).fp) (M0 := [rowR 5 1 (.slice A n c) n (xs.map vu8)]) Tryz.func27 rfl Tryz.ntmps27 (Nat.le_of_ble_eq_true rfl) (St.init1 (r := rowR 5 1 (.slice A n c) n (xs.map vu8)) hr (fun b hb => (hr.lt b hb).2)) ?_
  refine C.less (L' := [(0, _)]) ?_ (Sub.cons rfl (Sub.nil _)) (fun w h => h)
  refine C.seq ?_
  refine C.region ?_
  refine J.asg rfl rfl rfl rfl rfl ?_
  refine J.nil ?_
  refine C.block ?_
  refine C.loop (σ := Nat) (fun i => i ≤ n) (fun i => [(0, .slice A n c), (2, vi (i : Int))]) (fun i => [rowR 5 1 (.slice A n c) n ((spoil (xs.take i)).map vu8 ++ (xs.map vu8).drop i)]) (fun i => n - i) 0 (Nat.zero_le _) ?_ ?_ ?_
  · exact (Sub.cons rfl (Sub.cons rfl (Sub.nil _)))
  · exact fun w h => h
  intro i hi
  dsimp only
  refine C.seq ?_
  refine C.seq ?_
  refine C.region ?_
  refine J.move rfl rfl rfl rfl rfl ?_
  refine J.move rfl rfl rfl rfl rfl ?_
  refine J.len rfl rfl rfl rfl rfl Tryz.runUnderlying22 ?_
  refine J.bin rfl rfl rfl rfl rfl rfl (fun w => rfl) ?_
  refine J.nil ?_
  refine C.cond rfl (fun h => ?_) (fun h => ?_)
  · have hlt : i < n := by have := of_decide_eq_true h; omega
    obtain ⟨x, hx⟩ : ∃ x, xs[i]? = some x := ⟨_, List.getElem?_eq_getElem (by omega)⟩
    have hsl : ((spoil (xs.take i)).map vu8).length = i := by unfold spoil; rw [List.length_map, List.length_map, List.length_take]; omega
    have hxm : (xs.map vu8)[i]? = some (vu8 x) := by rw [List.getElem?_map, hx]; rfl
    refine C.ex (fun q : Nat × Array Value => [blk q.1 q.2 5]) _ (fun w h => h.row_blk (by omega)) ?_
    rintro ⟨bv, cv⟩ ⟨rfl, hc8, hc82, hcs, hct⟩
    dsimp only at hcs hct ⊢
    rw [Nat.mul_one] at hct
    refine C.skip ?_
    refine C.seq ?_
    refine C.block ?_
    refine C.region ?_
    refine J.move rfl rfl rfl rfl rfl ?_
    refine J.move rfl rfl rfl rfl rfl ?_
    first | refine J.idx1 rfl rfl rfl rfl rfl rfl Tryz.runUnderlying22 Tryz.sizeOf5 (by omega) ?_ | refine J.idx rfl rfl rfl rfl rfl rfl Tryz.runUnderlying22 Tryz.sizeOf5 (by omega) ?_
    refine J.ld rfl rfl rfl rfl rfl Tryz.isAgg5 (fun w h => cellO h 0 rfl (by rw [Nat.zero_add]; exact getArr hct (get_mid2 hsl hxm))) ?_
    refine J.bin rfl rfl rfl rfl rfl rfl (fun w => u8_xor x 85) ?_
    first | refine J.idx1 rfl rfl rfl rfl rfl rfl Tryz.runUnderlying22 Tryz.sizeOf5 (by omega) ?_ | refine J.idx rfl rfl rfl rfl rfl rfl Tryz.runUnderlying22 Tryz.sizeOf5 (by omega) ?_
    refine J.st1 0 rfl rfl rfl rfl rfl rfl Tryz.sizeOf5 rfl rfl (by rw [Nat.blt_eq]; omega) rfl ?_
    refine J.nil ?_
    refine C.region ?_
    refine J.move rfl rfl rfl rfl rfl ?_
    refine J.bin rfl rfl rfl rfl rfl rfl (fun w => ra_add (by omega)) ?_
    refine J.asg rfl rfl rfl rfl rfl ?_
    refine J.nil ?_
    refine ⟨rfl, i + 1, hlt, by omega, (Sub.cons rfl (Sub.cons rfl (Sub.nil _))), fun w h => h.blk_row2 hc8 hc82 (by simpa using hcs) ?_⟩
    rw [Nat.mul_one, Nat.zero_add, setArr hct hlt, set_mid hsl (by rw [List.length_map]; omega), take_snoc hx]
    unfold spoil
    rw [List.map_append, List.map_append]
    rfl
  · have hge : i = n := by have := of_decide_eq_false h; omega
    subst hge
    rw [List.take_of_length_le (by omega), List.drop_of_length_le (by rw [List.length_map]; omega), List.append_nil]
    refine C.exit rfl ?_
    exact fin0 rfl (fun w' h => h.retM 0 rfl ⟨rfl, rfl⟩)
end Go.Proofs.YtiminmnmeknioaaGreatDoor

/- Stores and loads, as plain lists. -/
set_option linter.unusedVariables false
namespace Go.Proofs.YtiminmnmeknioaaGreatDoor

/-- A disk of n sectors with nothing in its cache. -/
def Good (d : Dk) (n : Nat) : Prop := d.secs.length = n ∧ (16 ≤ n ∧ n ≤ 2048) ∧ (∀ x ∈ d.secs, x.length = 64) ∧ d.cache = []
theorem flatMap_cg {α β : Type} {l : List α} {f g : α → List β} (h : ∀ x ∈ l, f x = g x) : l.flatMap f = l.flatMap g := by
  rw [List.flatMap_def, List.flatMap_def, List.map_congr_left h]
theorem any_f {α : Type} {p : α → Bool} {l : List α} (h : ∀ x ∈ l, p x = false) : l.any p = false := List.any_eq_false.2 (fun x hx => by rw [h x hx]; simp)
theorem Good.bad {d : Dk} {n : Nat} (h : Good d n) : dkBad d = false := by
  obtain ⟨h1, h2, h3, h4⟩ := h
  unfold dkBad
  rw [h4, any_f (l := d.secs) (p := oddS) (fun x hx => by unfold oddS; simp [h3 x hx]), dec_f (show ¬ d.secs.length < 1 by omega), dec_f (show ¬ d.secs.length > 2048 by omega)]
  rfl
theorem Good.ask {d : Dk} {n : Nat} (h : Good d n) : askErr d = 0 := by
  have hb := h.bad
  obtain ⟨h1, h2, h3, h4⟩ := h
  unfold askErr
  rw [if_neg (by rw [hb]; simp), if_neg (by omega)]
def chunk (data : List UInt8) (i : Nat) : List UInt8 := pad64 ((data.drop (i * 64)).take 64)
theorem putW_get (s : Int) (data : List UInt8) (n k : Nat) (h : k < n) : (putW s data n)[k]? = some (s + (k : Int), chunk data k) := by
  unfold putW chunk
  rw [List.getElem?_map, List.getElem?_range h]
  rfl
/-- Where what was put lies. -/
theorem landPut (kp : Nat → Bool) (s : Nat) (data : List UInt8) (n : Nat) (secs : List (List UInt8)) (hs : s + n ≤ secs.length) : ∀ k, k ≤ n → ∀ j, (landN kp (putW s data n) secs k)[j]? = if s ≤ j ∧ j < s + k ∧ kp (j - s) = true then some (chunk data (j - s)) else secs[j]? := by
  intro k
  induction k with
  | zero => intro _ j; rw [if_neg (by omega)]; rfl
  | succ k ih =>
    intro hk j
    have ih := ih (by omega) j
    rw [landN_succ (putW_get s data n k (by omega))]
    by_cases hkp : kp k = true
    · rw [if_pos hkp, show ((s : Int) + (k : Int)).toNat = s + k by omega, List.getElem?_set, landN_len]
      by_cases hj : s + k = j
      · subst hj
        rw [if_pos rfl, if_pos (by omega), if_pos ⟨by omega, by omega, by rw [Nat.add_sub_cancel_left]; exact hkp⟩, Nat.add_sub_cancel_left]
      · rw [if_neg hj, ih]
        by_cases hc : s ≤ j ∧ j < s + k ∧ kp (j - s) = true
        · rw [if_pos hc, if_pos ⟨hc.1, by omega, hc.2.2⟩]
        · rw [if_neg hc, if_neg (fun h => hc ⟨h.1, by omega, h.2.2⟩)]
    · rw [if_neg hkp, ih]
      by_cases hj : s + k = j
      · subst hj
        rw [if_neg (by omega), if_neg (by rw [Nat.add_sub_cancel_left]; exact fun h => hkp h.2.2)]
      · by_cases hc : s ≤ j ∧ j < s + k ∧ kp (j - s) = true
        · rw [if_pos hc, if_pos ⟨hc.1, by omega, hc.2.2⟩]
        · rw [if_neg hc, if_neg (fun h => hc ⟨h.1, by omega, h.2.2⟩)]
theorem chunk_len (data : List UInt8) (i : Nat) : (chunk data i).length = 64 := pad64_len (by rw [List.length_take]; omega)
theorem chunk_eq {data : List UInt8} {i : Nat} (h : i * 64 + 64 ≤ data.length) : chunk data i = (data.drop (i * 64)).take 64 := by
  unfold chunk pad64
  have : ((data.drop (i * 64)).take 64).length = 64 := by rw [List.length_take, List.length_drop]; omega
  rw [this]
  simp
theorem chunks_all (data : List UInt8) : ∀ n, n * 64 ≤ data.length → (List.range n).flatMap (chunk data) = data.take (n * 64) := by
  intro n
  induction n with
  | zero => intro _; rfl
  | succ n ih =>
    intro h
    rw [List.range_succ, List.flatMap_append, ih (by omega)]
    simp only [List.flatMap_cons, List.flatMap_nil, List.append_nil]
    rw [chunk_eq (by omega), Nat.add_mul, Nat.one_mul, List.take_add]
theorem Good.last {d : Dk} {n : Nat} (h : Good d n) (s : Int) : dkLast d s = d.secs.getD s.toNat [] := by
  unfold dkLast
  rw [h.2.2.2, lastW_nil]
  rfl
theorem Good.getAll {d : Dk} {n : Nat} (h : Good d n) (s : Nat) (hs : s + 8 ≤ n) : dkGetAll d s 8 = ((List.range 8).flatMap (fun i => d.secs.getD (s + i) []), 0) := by
  have hb := h.bad
  have hr : roomOk d.secs.length s 8 = true := decide_eq_true (by rw [h.1]; omega)
  unfold dkGetAll
  rw [if_neg (by rw [hb]; simp), if_neg (by rw [hr]; simp)]
  unfold lasts
  congr 1
  refine flatMap_cg ?_
  intro i hi
  rw [h.last, show ((s : Int) + (i : Int)).toNat = s + i by omega]
/-- The region number i, read as a point. -/
theorem reg_eq {d : Dk} {n : Nat} (h : Good d n) (i : Nat) (hi : i < 2) : ptReg1 d i = ptDec ((List.range 8).flatMap (fun j => d.secs.getD (i * 8 + j) [])) := by
  unfold ptReg1
  have := h.getAll (i * 8) (by have := h.2.1; omega)
  rw [show ((i : Int) * 8) = ((i * 8 : Nat) : Int) by omega, this]
theorem reg_congr {d e : Dk} {n : Nat} (h : Good d n) (k : Good e n) (i : Nat) (hi : i < 2) (hs : ∀ j, j < 8 → d.secs[i * 8 + j]? = e.secs[i * 8 + j]?) : ptReg1 d i = ptReg1 e i := by
  rw [reg_eq h i hi, reg_eq k i hi]
  congr 1
  refine flatMap_cg ?_
  intro j hj
  have hj := List.mem_range.1 hj
  rw [List.getD_eq_getElem?_getD, List.getD_eq_getElem?_getD, hs j hj]
theorem reg_of {d : Dk} {n : Nat} (h : Good d n) (i : Nat) (hi : i < 2) (data : List UInt8) (hd : data.length = 512) (hs : ∀ j, j < 8 → d.secs[i * 8 + j]? = some (chunk data j)) : ptReg1 d i = ptDec data := by
  rw [reg_eq h i hi]
  congr 1
  rw [show (List.range 8).flatMap (fun j => d.secs.getD (i * 8 + j) []) = (List.range 8).flatMap (chunk data) from flatMap_cg (fun j hj => by
    rw [List.getD_eq_getElem?_getD, hs j (List.mem_range.1 hj)]; rfl), chunks_all data 8 (by omega), List.take_of_length_le (by omega)]
/-- Sectors once something was put and some of it landed. -/
theorem Good.landed {d : Dk} {n : Nat} (h : Good d n) (kp : Nat → Bool) (s : Nat) (data : List UInt8) (hd : data.length = 512) (hs : s + 8 ≤ n) : Good ⟨landN kp (putW s data 8) d.secs 8, []⟩ n ∧ dkPutAll d s data = (⟨d.secs, putW s data 8⟩, 0) ∧ dkBad ⟨d.secs, putW s data 8⟩ = false := by
  have hb := h.bad
  obtain ⟨h1, h2, h3, h4⟩ := h
  have hn : nch data = 8 := by unfold nch; omega
  have hr : roomOk d.secs.length s (nch data) = true := decide_eq_true (by rw [h1, hn]; omega)
  refine ⟨⟨by rw [landN_len]; exact h1, h2, landN_64 (kp := kp) (c := putW (s : Int) data 8) h3 (fun x hx => ?_) 8, rfl⟩, ?_, ?_⟩
  · unfold putW at hx
    obtain ⟨i, _, rfl⟩ := List.mem_map.1 hx
    exact chunk_len data i
  · unfold dkPutAll
    rw [if_neg (by rw [hb]; simp), if_neg (by rw [hr]; simp), if_neg (by rw [hn, h4]; simp)]
    unfold dkPut
    rw [hn, h4]
    rfl
  · unfold dkBad
    rw [any_f (l := d.secs) (p := oddS) (fun x hx => by unfold oddS; simp [h3 x hx]), any_f (l := putW s data 8) (p := badW d.secs.length) (fun x hx => ?_)]
    · show (decide (d.secs.length < 1) || decide (d.secs.length > 2048) || decide ((putW (s : Int) data 8).length > 4096) || false || false) = false
      rw [dec_f (show ¬ d.secs.length < 1 by omega), dec_f (show ¬ d.secs.length > 2048 by omega), putW_len, dec_f (by omega)]
      rfl
    · unfold putW at hx
      obtain ⟨i, hi, rfl⟩ := List.mem_map.1 hx
      have hi := List.mem_range.1 hi
      unfold badW oddS
      have : (pad64 ((data.drop (i * 64)).take 64)).length = 64 := chunk_len data i
      simp [this]
      omega
theorem ep2 {p : Pt} (h : ptErr p = 0) : ∃ i : Nat, i < 2 ∧ p.ep % 2 = (i : Int) := by
  have := (ptErr_ok h).1 p.ep (by simp [Pt.nums])
  exact ⟨(p.ep % 2).toNat, by omega, by omega⟩
theorem store_good {d : Dk} {n : Nat} (h : Good d n) {p : Pt} (hp : ptErr p = 0) {i : Nat} (hi : i < 2) (hi2 : p.ep % 2 = (i : Int)) : ptStore d p = (⟨landN (fun _ => true) (putW ((i * 8 : Nat) : Int) (ptReg p) 8) d.secs 8, []⟩, 0) := by
  have hn := h.2.1
  obtain ⟨g1, g2, g3⟩ := h.landed (fun _ => true) (i * 8) (ptReg p) (ptReg_len hp) (by omega)
  unfold ptStore
  rw [if_neg (by rw [h.ask]; simp), if_neg (by rw [hp]; simp), hi2, show (8 * (i : Int)) = ((i * 8 : Nat) : Int) by omega, g2]
  simp only [ne_eq, not_true_eq_false, if_false]
  unfold dkLand
  rw [if_neg (by rw [g3]; simp), putW_len]
theorem store_bad {d : Dk} {n : Nat} (h : Good d n) {p : Pt} (hp : ptErr p ≠ 0) : ptStore d p = (dk0, ptErr p) := by
  unfold ptStore
  rw [if_neg (by rw [h.ask]; simp), if_pos hp]
/-- What a store leaves: one region is the point, the other as it was. -/
theorem stored {d : Dk} {n : Nat} (h : Good d n) {p : Pt} (hp : ptErr p = 0) {i : Nat} (hi : i < 2) (hi2 : p.ep % 2 = (i : Int)) : Good (ptStore d p).1 n ∧ (ptStore d p).2 = 0 ∧ ptReg1 (ptStore d p).1 i = (p, 0) ∧ ptReg1 (ptStore d p).1 ((1 - i : Nat)) = ptReg1 d ((1 - i : Nat)) := by
  have hn := h.2.1
  have hl := ptReg_len hp
  obtain ⟨g1, g2, g3⟩ := h.landed (fun _ => true) (i * 8) (ptReg p) hl (by omega)
  have hland := landPut (fun _ => true) (i * 8) (ptReg p) 8 d.secs (by rw [h.1]; omega) 8 (Nat.le_refl _)
  rw [store_good h hp hi hi2]
  refine ⟨g1, rfl, ?_, ?_⟩
  · rw [reg_of g1 i hi (ptReg p) hl (fun j hj => ?_), ptDec_reg hp]
    show (landN _ _ _ _)[_]? = _
    rw [hland, if_pos ⟨by omega, by omega, rfl⟩, Nat.add_sub_cancel_left]
  · refine reg_congr g1 h (1 - i) (by omega) (fun j hj => ?_)
    show (landN _ _ _ _)[_]? = _
    rw [hland, if_neg (by omega)]
theorem load_good {d : Dk} {n : Nat} (h : Good d n) : ptLoad d = ptStep (ptStep (ptZero, 21) (ptReg1 d (0 : Nat))) (ptReg1 d (1 : Nat)) := by
  unfold ptLoad
  rw [if_neg (by rw [h.ask]; simp)]
  rfl
/-- The newer of two. -/
theorem load_two {d : Dk} {n : Nat} (h : Good d n) {i : Nat} (hi : i < 2) {p : Pt} (h1 : ptReg1 d i = (p, 0)) (h2 : ∀ q, ptReg1 d ((1 - i : Nat)) = (q, 0) → q.ep < p.ep) : ptLoad d = (p, 0) := by
  rw [load_good h, ptStep2]
  match i, hi with
  | 0, _ =>
    rw [h1]
    generalize hq : ptReg1 d (1 : Nat) = q at h2 ⊢
    obtain ⟨q, c⟩ := q
    dsimp only
    rw [if_neg (by simp), if_neg ?_]
    rintro (h | ⟨h3, h4⟩)
    · exact h rfl
    · subst h3
      have := h2 q rfl
      omega
  | 1, _ =>
    rw [show ptReg1 d ((1 : Nat) : Int) = (p, 0) from h1]
    generalize hq : ptReg1 d (0 : Nat) = q at h2 ⊢
    obtain ⟨q, c⟩ := q
    dsimp only
    rw [if_neg (by simp)]
    by_cases hc : c = 0
    · subst hc
      rw [if_pos (.inr ⟨rfl, h2 q rfl⟩)]
    · rw [if_pos (.inl hc)]
/-- A new disk. -/
def dkZ : Dk := ⟨List.replicate 16 sec0, []⟩
theorem new16 : dkNew 16 = (dkZ, 0) := rfl
theorem goodZ : Good dkZ 16 := ⟨rfl, ⟨by omega, by omega⟩, fun x hx => by rw [(List.mem_replicate.1 hx).2]; rfl, rfl⟩
theorem regZ (i : Nat) (hi : i < 2) : (ptReg1 dkZ i).2 ≠ 0 := by
  rw [reg_of goodZ i hi (List.replicate 512 0) (List.length_replicate ..) (fun j hj => ?_)]
  · decide +kernel
  · have : chunk (List.replicate 512 0) j = sec0 := by
      rw [chunk_eq (by rw [List.length_replicate]; omega), List.drop_replicate, List.take_replicate]
      unfold sec0
      congr 1
      omega
    rw [this]
    show (List.replicate 16 sec0)[_]? = _
    rw [List.getElem?_replicate, if_pos (by omega)]
def ptA : Pt := ⟨1, 0, 0, 0, []⟩
def ptB : Pt := ⟨2, 7, 0, 0, []⟩
/-- The page's example. -/
theorem alive_all : (ptStore dkZ ptA).2 = 0 ∧ (ptStore (ptStore dkZ ptA).1 ptB).2 = 0 ∧ ptLoad (ptStore (ptStore dkZ ptA).1 ptB).1 = (ptB, 0) := by
  have ha : ptErr ptA = 0 := by decide +kernel
  have hb : ptErr ptB = 0 := by decide +kernel
  obtain ⟨a1, a2, a3, a4⟩ := stored goodZ ha (i := 1) (by omega) rfl
  obtain ⟨b1, b2, b3, b4⟩ := stored a1 hb (i := 0) (by omega) rfl
  refine ⟨a2, b2, load_two b1 (i := 0) (by omega) b3 (fun q hq => ?_)⟩
  have h1 : ptReg1 (ptStore (ptStore dkZ ptA).1 ptB).1 ((1 - 0 : Nat)) = (ptA, 0) := b4.trans a3
  rw [h1] at hq
  injection hq with hq _
  subst hq
  decide
end Go.Proofs.YtiminmnmeknioaaGreatDoor
/- undercroftlaw17.alive. -/
set_option linter.unusedVariables false
namespace Go.Proofs.YtiminmnmeknioaaGreatDoor
open Go Go.RowKit

theorem alive_calls (w : World) (hg : ErrTy w) : Calls Tryz.prog 19 #[] w (Ret0 w (.bool true)) := by
  obtain ⟨a1, a2, a3⟩ := alive_all
  refine calls_of_C Tryz.func19 rfl Tryz.ntmps19 (Nat.le_of_ble_eq_true rfl) ?_
  refine C.seq ?_
  refine C.region ?_
  refine J.asg rfl rfl rfl rfl rfl ?_
  refine J.nil ?_
  refine C.seq ?_
  refine C.region ?_
  refine J.callrl rfl rfl rfl rfl rfl Tryz.call26 (fun w h => by have := New_calls w 16; rw [new16] at this; exact this)  ?_
  rintro v8 R8 ⟨A1, c1, A2, c2, vs, fp, rfl, rfl⟩
  refine J.move rfl rfl rfl rfl rfl ?_
  refine J.ext rfl rfl rfl rfl rfl rfl ?_
  refine J.ext rfl rfl rfl rfl rfl rfl ?_
  refine J.allocc rfl rfl rfl rfl Tryz.zeroValue50 rfl (fun b1 => ?_)
  first | refine J.stwc 0 rfl rfl rfl rfl rfl rfl Tryz.sizeOf50 (by first | rfl | assumption | simp [Value.cells, Value.oneCell']) rfl rfl ?_ | refine J.stw 0 rfl rfl rfl rfl rfl rfl Tryz.sizeOf50 (by first | rfl | assumption | simp [Value.cells, Value.oneCell']) rfl rfl ?_
  refine J.asg rfl rfl rfl rfl rfl ?_
  refine J.nil ?_
  refine C.seq ?_
  refine C.region ?_
  refine J.ldw 0 rfl rfl rfl rfl rfl Tryz.isAgg50 rfl Tryz.sizeOf50 ?_
  refine J.bld (pl := #[(0, 1), (1, 1), (2, 1), (3, 1), (4, 1)]) (cells := #[_, _, _, _, _]) rfl rfl rfl rfl rfl Tryz.zeroValue25 Tryz.runUnderlying25 (fun w => by kernel_rfl) rfl ?_
  refine J.callrl rfl rfl rfl rfl rfl Tryz.call21 (fun w h => by have := Store_calls w dkZ ptA _ _ (.slice none 0 0) ((h.ord [1, 2] (by decide)).bsa_own) (h.rws 3 rfl) RB.nil (Nat.zero_le _); rw [a1] at this; exact this)  ?_
  rintro v14 R14 ⟨A3, c3, A4, c4, vs2, fp2, rfl, rfl⟩
  refine J.move rfl rfl rfl rfl rfl ?_
  refine J.ext rfl rfl rfl rfl rfl rfl ?_
  refine J.ext rfl rfl rfl rfl rfl rfl ?_
  first | refine J.stwc 3 rfl rfl rfl rfl rfl rfl Tryz.sizeOf50 (by first | rfl | assumption | simp [Value.cells, Value.oneCell']) rfl rfl ?_ | refine J.stw 3 rfl rfl rfl rfl rfl rfl Tryz.sizeOf50 (by first | rfl | assumption | simp [Value.cells, Value.oneCell']) rfl rfl ?_
  refine J.asg rfl rfl rfl rfl rfl ?_
  refine J.nil ?_
  refine C.seq ?_
  refine C.region ?_
  refine J.ldw 3 rfl rfl rfl rfl rfl Tryz.isAgg50 rfl Tryz.sizeOf50 ?_
  refine J.bld (pl := #[(0, 1), (1, 1), (2, 1), (3, 1), (4, 1)]) (cells := #[_, _, _, _, _]) rfl rfl rfl rfl rfl Tryz.zeroValue25 Tryz.runUnderlying25 (fun w => by kernel_rfl) rfl ?_
  refine J.callrl rfl rfl rfl rfl rfl Tryz.call21 (fun w h => by have := Store_calls w (ptStore dkZ ptA).1 ptB _ _ (.slice none 0 0) ((h.ord [0, 1] (by decide)).bsa_own) (h.rws 2 rfl) RB.nil (Nat.zero_le _); rw [a2] at this; exact this)  ?_
  rintro v20 R20 ⟨A5, c5, A6, c6, vs3, fp3, rfl, rfl⟩
  refine J.move rfl rfl rfl rfl rfl ?_
  refine J.ext rfl rfl rfl rfl rfl rfl ?_
  refine J.ext rfl rfl rfl rfl rfl rfl ?_
  first | refine J.stwc 6 rfl rfl rfl rfl rfl rfl Tryz.sizeOf50 (by first | rfl | assumption | simp [Value.cells, Value.oneCell']) rfl rfl ?_ | refine J.stw 6 rfl rfl rfl rfl rfl rfl Tryz.sizeOf50 (by first | rfl | assumption | simp [Value.cells, Value.oneCell']) rfl rfl ?_
  refine J.asg rfl rfl rfl rfl rfl ?_
  refine J.nil ?_
  refine C.seq ?_
  refine C.region ?_
  refine J.ldw 6 rfl rfl rfl rfl rfl Tryz.isAgg50 rfl Tryz.sizeOf50 ?_
  refine J.callr rfl rfl rfl rfl rfl Tryz.call23 (fun w h => by have := Load_calls w (ptStore (ptStore dkZ ptA).1 ptB).1 _ _ ((h.ord [0, 1] (by decide)).bsa_own) (h.rws 2 rfl) (h.err hg); rw [a3] at this; exact this)  ?_
  rintro v25 r25 ⟨A7, c7, fp4, rfl, rfl⟩
  refine J.move rfl rfl rfl rfl rfl ?_
  refine J.ext rfl rfl rfl rfl rfl rfl ?_
  refine J.ext rfl rfl rfl rfl rfl rfl ?_
  refine J.allocc rfl rfl rfl rfl Tryz.zeroValue25 rfl (fun b5 => ?_)
  first | refine J.stwc 0 rfl rfl rfl rfl rfl rfl Tryz.sizeOf25 (by first | rfl | assumption | simp [Value.cells, Value.oneCell']) rfl rfl ?_ | refine J.stw 0 rfl rfl rfl rfl rfl rfl Tryz.sizeOf25 (by first | rfl | assumption | simp [Value.cells, Value.oneCell']) rfl rfl ?_
  refine J.asg rfl rfl rfl rfl rfl ?_
  refine J.nil ?_
  refine C.seq ?_
  refine C.region ?_
  refine J.move rfl rfl rfl rfl rfl ?_
  refine J.call0 rfl rfl rfl rfl rfl Tryz.call15 (fun w h => num_calls w 0) ?_
  refine J.move rfl rfl rfl rfl rfl ?_
  refine J.call0 rfl rfl rfl rfl rfl Tryz.call15 (fun w h => num_calls w 0) ?_
  refine J.bin rfl rfl rfl rfl rfl rfl (fun w => ra_add (by omega)) ?_
  refine J.move rfl rfl rfl rfl rfl ?_
  refine J.call0 rfl rfl rfl rfl rfl Tryz.call15 (fun w h => num_calls w 0) ?_
  refine J.bin rfl rfl rfl rfl rfl rfl (fun w => ra_add (by omega)) ?_
  refine J.move rfl rfl rfl rfl rfl ?_
  refine J.call0 rfl rfl rfl rfl rfl Tryz.call15 (fun w h => num_calls w 0) ?_
  refine J.bin rfl rfl rfl rfl rfl rfl (fun w => ra_add (by omega)) ?_
  refine J.bin rfl rfl rfl rfl rfl rfl (fun w => rfl) ?_
  refine J.move rfl rfl rfl rfl rfl ?_
  refine J.want rfl rfl rfl rfl ?_
  refine J.fld (k := 0) rfl rfl rfl rfl rfl Tryz.runUnderlying25 rfl rfl Tryz.sizeOf3 ?_
  refine J.want rfl rfl rfl rfl ?_
  refine J.ldo 0 rfl rfl rfl rfl rfl Tryz.isAgg3 rfl rfl ?_
  refine J.want rfl rfl rfl rfl ?_
  refine J.bin rfl rfl rfl rfl rfl rfl (fun w => rfl) ?_
  refine J.pick rfl rfl rfl rfl rfl rfl ?_
  refine J.move rfl rfl rfl rfl rfl ?_
  refine J.want rfl rfl rfl rfl ?_
  refine J.fld (k := 1) rfl rfl rfl rfl rfl Tryz.runUnderlying25 rfl rfl Tryz.sizeOf3 ?_
  refine J.want rfl rfl rfl rfl ?_
  refine J.ldo 0 rfl rfl rfl rfl rfl Tryz.isAgg3 rfl rfl ?_
  refine J.want rfl rfl rfl rfl ?_
  refine J.bin rfl rfl rfl rfl rfl rfl (fun w => rfl) ?_
  refine J.pick rfl rfl rfl rfl rfl rfl ?_
  refine J.asg rfl rfl rfl rfl rfl ?_
  refine J.nil ?_
  refine C.ret ?_
  exact fin1 rfl (RV.tmp rfl) (fun w' h => h.ret0)
end Go.Proofs.YtiminmnmeknioaaGreatDoor

/- Points and disks among the inputs. -/
set_option linter.unusedVariables false
namespace Go.Proofs.YtiminmnmeknioaaGreatDoor
open Go Go.RowKit Go.ChangeShapes Go.WideShapes

section
variable {H : Type} {enc : TypeId × Value → H} {W : World}
theorem rd_pt {fuel : Nat} {cs : List Value} {x : DataW H × List MemPlace} (h : TR enc Tryz.prog W fuel 24 cs x) : ∃ (p : Pt) (dv : Value), cs = [vi p.ep, vi p.sq, vi p.vw, vi p.cm, dv] ∧ BA W dv p.dt ∧ p.dt.length ≤ Rows.uptoBulk x.1 ∧ ∀ n ∈ p.nums, InR64 n := by
  obtain ⟨hl, hf⟩ := rd_fields Tryz.underlying24 (Go.Deep.hone_of (by kernel_rfl)) (by kernel_rfl) h
  match cs, hl with
  | [c0, c1, c2, c3, c4], _ =>
    obtain ⟨n0, y0, t0, -⟩ := hf 0 _ c0 rfl rfl
    obtain ⟨n1, y1, t1, -⟩ := hf 1 _ c1 rfl rfl
    obtain ⟨n2, y2, t2, -⟩ := hf 2 _ c2 rfl rfl
    obtain ⟨n3, y3, t3, -⟩ := hf 3 _ c3 rfl rfl
    obtain ⟨n4, y4, t4, b4⟩ := hf 4 _ c4 rfl rfl
    obtain ⟨e0, h0, r0⟩ := rd_i64 Tryz.underlying3 t0
    obtain ⟨e1, h1, r1⟩ := rd_i64 Tryz.underlying3 t1
    obtain ⟨e2, h2, r2⟩ := rd_i64 Tryz.underlying3 t2
    obtain ⟨e3, h3, r3⟩ := rd_i64 Tryz.underlying3 t3
    obtain ⟨dv, xs, h4, r4, l4⟩ := rd_bytes Tryz.underlying22 Tryz.underlying5 (by kernel_rfl) t4
    injection h0 with h0 _
    injection h1 with h1 _
    injection h2 with h2 _
    injection h3 with h3 _
    injection h4 with h4 _
    subst h0 h1 h2 h3 h4
    exact ⟨⟨e0, e1, e2, e3, xs⟩, _, rfl, r4, Nat.le_trans l4 b4, fun n hn => by
      simp only [Pt.nums, List.mem_cons, List.not_mem_nil, or_false] at hn
      rcases hn with rfl | rfl | rfl | rfl <;> assumption⟩
end
end Go.Proofs.YtiminmnmeknioaaGreatDoor

/- The listed variables: what they give, and a world that holds them. -/
set_option linter.unusedVariables false
namespace Go.Proofs.YtiminmnmeknioaaGreatDoor
open Go Go.ChangeShapes Go.WideShapes Go.ChangeAt Go.RowKit

theorem pOwn : ownKnob Tryz.prog.godebug = none := by kernel_rfl
theorem pLaidOut : laidOutB Tryz.prog = true := by kernel_rfl
abbrev theLaid : List (String × DataW Unit) := [("unicode/utf8.acceptRanges", Rows.laid_unicode_utf8_acceptRanges), ("errors.errorType", Rows.laid_errors_errorType), ("unicode/utf8.first", Rows.laid_unicode_utf8_first)]
theorem gEt : Tryz.prog.globalNamed "errors.errorType" = some 0 := by kernel_rfl
theorem gRt : (Tryz.prog.cutTypes.find? (·.1 == "internal/reflectlite.rtype")).map (·.2) = some 190 := by kernel_rfl
theorem gRow : ((List.range 235).filter fun t => Tryz.prog.rowNamed t [101, 114, 114, 111, 114]) = [111] := by kernel_rfl
theorem gSize : Tryz.prog.types.size = 235 := by kernel_rfl
theorem gHandle : typeHandle Tryz.prog 111 = rty 111 := by kernel_rfl
theorem errTy_of_laid {W : World} (h : laidMetH Tryz.prog theLaid W) : ErrTy W := by
  have h' : laidMet Tryz.prog [("unicode/utf8.acceptRanges", Rows.laid_unicode_utf8_acceptRanges), ("unicode/utf8.first", Rows.laid_unicode_utf8_first)] W ∧ handlesMet Tryz.prog [("errors.errorType", Rows.laid_errors_errorType)] W := h
  obtain ⟨name, u, ty, e1, e2, e3, e4, e5⟩ := h'.2 _ (List.mem_singleton.2 rfl)
  have en : name = [101, 114, 114, 111, 114] := (Option.some.inj e1).symm
  subst en
  obtain rfl := Option.some.inj (gRt.symm.trans e2)
  have hm : ty ∈ (List.range 235).filter fun t => Tryz.prog.rowNamed t [101, 114, 114, 111, 114] := List.mem_filter.2 ⟨List.mem_range.2 (by rw [← gSize]; exact e3), e4⟩
  rw [gRow] at hm
  obtain rfl := List.mem_singleton.1 hm
  rw [gHandle] at e5
  have := World.var?_cell gEt e5 0
  unfold ErrTy
  simpa using this
def cellsFirst : Array Value := (Go.Pinned.utf8FirstZ.map fun (n : Nat) => Value.int .u8 (n : Int)).toArray
def cellsRanges : Array Value := ([128, 191, 160, 191, 128, 159, 144, 191, 128, 143, 0, 0, 0, 0, 0, 0, 0, 0, 0, 0, 0, 0, 0, 0, 0, 0, 0, 0, 0, 0, 0, 0].map fun n : Nat => Value.int .u8 (n : Int)).toArray
def setBlk (h : Array Obj) (g : Nat) (cs : Array Value) : Array Obj := h.modify g fun
  | .cells _ t frozen => .cells cs t frozen
  | o => o
/-- A world that holds what is listed. -/
noncomputable def laidWorld (os : Os) : World :=
  let w0 := World.holding Tryz.prog os ⟨#[], #[], []⟩
  { w0 with heap := setBlk (setBlk (setBlk w0.heap 0 #[.iface 190 (.agg #[rty 111])]) 1 cellsFirst) 2 cellsRanges }
end Go.Proofs.YtiminmnmeknioaaGreatDoor

/- PointOwn: the walk. -/
set_option linter.unusedVariables false
namespace Go.Proofs.YtiminmnmeknioaaGreatDoor
open Go Go.RowKit

theorem PointOwn_calls (w : World) (p : Pt) (dv : Value) (hx : BA w dv p.dt) (hl : p.dt.length ≤ 1048576) (hg : ErrTy w) : Calls Tryz.prog 6 #[.agg #[vi p.ep, vi p.sq, vi p.vw, vi p.cm, dv]] w (Ret0 w (.bool true)) := by
  have hx0 := hx
  obtain ⟨A, c, rfl, -, -, -⟩ := hx.form
  refine calls_of_C Tryz.func6 rfl Tryz.ntmps6 (Nat.le_of_ble_eq_true rfl) ?_
  refine C.less (L' := [(0, _)]) ?_ (Sub.cons rfl (Sub.nil _)) (fun w h => h)
  refine C.seq ?_
  refine C.region ?_
  first | refine J.boxc rfl rfl rfl rfl rfl rfl (fun b1 => ?_) | refine J.box rfl rfl rfl rfl rfl (fun b1 => ?_)
  refine J.asg rfl rfl rfl rfl rfl ?_
  refine J.nil ?_
  refine C.seq ?_
  refine C.seq ?_
  refine C.region ?_
  refine J.call0 rfl rfl rfl rfl rfl Tryz.call19 (fun w h => alive_calls w (h.err hg)) ?_
  refine J.not rfl rfl rfl rfl rfl ?_
  refine J.nil ?_
  refine C.cond_f rfl ?_
  refine C.skip ?_
  refine C.seq ?_
  refine C.region ?_
  refine J.ldw 0 rfl rfl rfl rfl rfl Tryz.isAgg24 rfl Tryz.sizeOf24 ?_
  refine J.callr rfl rfl rfl rfl rfl Tryz.call8 (fun w h => of_pt_calls w p _ (h.ba hx0) (by omega))  ?_
  rintro v11 r11 ⟨Ax, cx, rfl, rfl⟩
  refine J.allocc rfl rfl rfl rfl Tryz.zeroValue25 rfl (fun b3 => ?_)
  first | refine J.stwc 0 rfl rfl rfl rfl rfl rfl Tryz.sizeOf25 (by first | rfl | assumption | simp [Value.cells, Value.oneCell']) rfl rfl ?_ | refine J.stw 0 rfl rfl rfl rfl rfl rfl Tryz.sizeOf25 (by first | rfl | assumption | simp [Value.cells, Value.oneCell']) rfl rfl ?_
  refine J.nil ?_
  refine C.seq ?_
  refine C.region ?_
  refine J.ldw 0 rfl rfl rfl rfl rfl Tryz.isAgg25 rfl Tryz.sizeOf25 ?_
  refine J.callr rfl rfl rfl rfl rfl Tryz.call10 (fun w h => Encode_row_calls w p _ (h.rowBA 1 rfl rfl) (by omega))  ?_
  rintro v14 r14 ⟨Ab, cb, rfl, rfl⟩
  refine J.move rfl rfl rfl rfl rfl ?_
  refine J.ext rfl rfl rfl rfl rfl rfl ?_
  refine J.ext rfl rfl rfl rfl rfl rfl ?_
  refine J.asg rfl rfl rfl rfl rfl ?_
  refine J.asg rfl rfl rfl rfl rfl ?_
  refine J.nil ?_
  refine C.seq ?_
  refine C.seq ?_
  refine C.region ?_
  refine J.move rfl rfl rfl rfl rfl ?_
  refine J.call0 rfl rfl rfl rfl rfl Tryz.call15 (fun w h => num_calls w _) ?_
  refine J.bin rfl rfl rfl rfl rfl rfl (fun w => rfl) ?_
  refine J.nil ?_
  rcases Decidable.em (ptErr p = 0) with h2 | h2
  · have he : ptEnc p = (ptReg p, 0) := by unfold ptEnc; rw [if_pos h2]
    have hlen := ptReg_len h2
    rw [he]
    refine C.cond_f rfl ?_
    refine C.skip ?_
    refine C.seq ?_
    refine C.region ?_
    refine J.fld (k := 4) rfl rfl rfl rfl rfl Tryz.runUnderlying25 rfl rfl Tryz.sizeOf22 ?_
    refine J.ldo 1 rfl rfl rfl rfl rfl Tryz.isAgg22 rfl rfl ?_
    refine J.callm 2 rfl rfl rfl rfl rfl Tryz.call27 rfl (fun w h => Spoil_calls w Ax p.dt.length cx p.dt (h.get 2 rfl))  ?_
    rintro v25 r25 ⟨rfl, rfl⟩
    refine J.nil ?_
    refine C.seq ?_
    refine C.region ?_
    refine J.move rfl rfl rfl rfl rfl ?_
    refine J.callr rfl rfl rfl rfl rfl Tryz.call12 (fun w h => by have := Decode_pt_calls w _ (ptReg p) (h.rowBA 0 rfl rfl) (by omega) (h.err hg); rw [ptDec_reg h2] at this; exact this)  ?_
    rintro v28 r28 ⟨Aq, cq, fq, rfl, rfl⟩
    refine J.move rfl rfl rfl rfl rfl ?_
    refine J.ext rfl rfl rfl rfl rfl rfl ?_
    refine J.ext rfl rfl rfl rfl rfl rfl ?_
    refine J.allocc rfl rfl rfl rfl Tryz.zeroValue25 rfl (fun b6 => ?_)
    first | refine J.stwc 0 rfl rfl rfl rfl rfl rfl Tryz.sizeOf25 (by first | rfl | assumption | simp [Value.cells, Value.oneCell']) rfl rfl ?_ | refine J.stw 0 rfl rfl rfl rfl rfl rfl Tryz.sizeOf25 (by first | rfl | assumption | simp [Value.cells, Value.oneCell']) rfl rfl ?_
    refine J.asg rfl rfl rfl rfl rfl ?_
    refine J.nil ?_
    refine C.seq ?_
    refine C.region ?_
    refine J.move rfl rfl rfl rfl rfl ?_
    refine J.callm 2 rfl rfl rfl rfl rfl Tryz.call27 rfl (fun w h => Spoil_calls w Ab (ptReg p).length cb (ptReg p) (h.get 2 rfl))  ?_
    rintro v32 r32 ⟨rfl, rfl⟩
    refine J.nil ?_
    refine C.seq ?_
    refine C.region ?_
    refine J.move rfl rfl rfl rfl rfl ?_
    refine J.call0 rfl rfl rfl rfl rfl Tryz.call15 (fun w h => num_calls w _) ?_
    refine J.bin rfl rfl rfl rfl rfl rfl (fun w => rfl) ?_
    refine J.move rfl rfl rfl rfl rfl ?_
    refine J.want rfl rfl rfl rfl ?_
    refine J.ldw 0 rfl rfl rfl rfl rfl Tryz.isAgg25 rfl Tryz.sizeOf25 ?_
    refine J.want rfl rfl rfl rfl ?_
    refine J.ldw 5 rfl rfl rfl rfl rfl Tryz.isAgg24 rfl Tryz.sizeOf24 ?_
    refine J.want rfl rfl rfl rfl ?_
    refine J.call0 rfl rfl rfl rfl rfl Tryz.call16 (fun w h => same_calls w p p _ _ (h.rb 1 rfl) (h.ba hx0)) ?_
    refine J.pick rfl rfl rfl rfl rfl rfl ?_
    refine J.asg rfl rfl rfl rfl rfl ?_
    refine J.nil ?_
    refine C.ret ?_
    rw [ptEq_refl]
    exact fin1 rfl (RV.tmp rfl) (fun w' h => h.ret0)
  · have he : ptEnc p = ([], ptErr p) := by unfold ptEnc; rw [if_neg h2]
    rw [he, show (ptErr p != 0) = true by simpa using h2]
    refine C.cond_t rfl ?_
    refine C.seq ?_
    refine C.region ?_
    refine J.move rfl rfl rfl rfl rfl ?_
    refine J.len rfl rfl rfl rfl rfl Tryz.runUnderlying22 ?_
    refine J.bin rfl rfl rfl rfl rfl rfl (fun w => rfl) ?_
    refine J.asg rfl rfl rfl rfl rfl ?_
    refine J.nil ?_
    refine C.ret ?_
    exact fin1 rfl (RV.tmp rfl) (fun w' h => h.ret0)
end Go.Proofs.YtiminmnmeknioaaGreatDoor

/- PointTells: the walk. -/
set_option linter.unusedVariables false
namespace Go.Proofs.YtiminmnmeknioaaGreatDoor
open Go Go.RowKit

theorem dec_self {α : Type} [DecidableEq α] (a : α) : decide (a = a) = true := decide_eq_true rfl
theorem PointTells_calls (w : World) (p : Pt) (dv bv : Value) (bs : List UInt8) (hx : BA w dv p.dt) (hl : p.dt.length ≤ 1048576) (hb : BA w bv bs) (hbl : bs.length ≤ 1048576) (hg : ErrTy w) : Calls Tryz.prog 3 #[.agg #[vi p.ep, vi p.sq, vi p.vw, vi p.cm, dv], bv] w (Ret0 w (.bool true)) := by
  have hx0 := hx
  have hb0 := hb
  obtain ⟨A, c, rfl, -, -, -⟩ := hx.form
  obtain ⟨B, c', rfl, -, -, -⟩ := hb.form
  refine calls_of_C Tryz.func3 rfl Tryz.ntmps3 (Nat.le_of_ble_eq_true rfl) ?_
  refine C.less (L' := [(0, _), (1, _)]) ?_ (Sub.cons rfl (Sub.cons rfl (Sub.nil _))) (fun w h => h)
  refine C.seq ?_
  refine C.region ?_
  first | refine J.boxc rfl rfl rfl rfl rfl rfl (fun b2 => ?_) | refine J.box rfl rfl rfl rfl rfl (fun b2 => ?_)
  refine J.asg rfl rfl rfl rfl rfl ?_
  refine J.nil ?_
  refine C.seq ?_
  refine C.region ?_
  refine J.ldw 0 rfl rfl rfl rfl rfl Tryz.isAgg24 rfl Tryz.sizeOf24 ?_
  refine J.callr rfl rfl rfl rfl rfl Tryz.call8 (fun w h => of_pt_calls w p _ (h.ba hx0) (by omega))  ?_
  rintro v16 r16 ⟨Ax, cx, rfl, rfl⟩
  refine J.move rfl rfl rfl rfl rfl ?_
  refine J.callr rfl rfl rfl rfl rfl Tryz.call9 (fun w h => CopyBytes_calls w _ bs (h.ba hb0) (by omega))  ?_
  rintro v18 r18 ⟨Ao, co, fo, -, -, rfl, rfl⟩
  refine J.allocc rfl rfl rfl rfl Tryz.zeroValue25 rfl (fun b5 => ?_)
  first | refine J.stwc 0 rfl rfl rfl rfl rfl rfl Tryz.sizeOf25 (by first | rfl | assumption | simp [Value.cells, Value.oneCell']) rfl rfl ?_ | refine J.stw 0 rfl rfl rfl rfl rfl rfl Tryz.sizeOf25 (by first | rfl | assumption | simp [Value.cells, Value.oneCell']) rfl rfl ?_
  refine J.asg rfl rfl rfl rfl rfl ?_
  refine J.nil ?_
  refine C.seq ?_
  refine C.region ?_
  refine J.ldw 0 rfl rfl rfl rfl rfl Tryz.isAgg25 rfl Tryz.sizeOf25 ?_
  refine J.callr rfl rfl rfl rfl rfl Tryz.call10 (fun w h => Encode_pt_calls w p _ (h.rowBA 2 rfl rfl) (by omega))  ?_
  rintro v21 r21 ⟨Ae, ce, fe, -, -, rfl, rfl⟩
  refine J.move rfl rfl rfl rfl rfl ?_
  refine J.ext rfl rfl rfl rfl rfl rfl ?_
  refine J.ext rfl rfl rfl rfl rfl rfl ?_
  refine J.asg rfl rfl rfl rfl rfl ?_
  refine J.asg rfl rfl rfl rfl rfl ?_
  refine J.nil ?_
  refine C.seq ?_
  refine C.region ?_
  refine J.ldw 4 rfl rfl rfl rfl rfl Tryz.isAgg24 rfl Tryz.sizeOf24 ?_
  refine J.callr rfl rfl rfl rfl rfl Tryz.call11 (fun w h => rEncode_pt_calls w p _ (h.ba hx0) (by omega))  ?_
  rintro v26 r26 ⟨Ac, cc, fc, -, -, rfl, rfl⟩
  refine J.move rfl rfl rfl rfl rfl ?_
  refine J.ext rfl rfl rfl rfl rfl rfl ?_
  refine J.ext rfl rfl rfl rfl rfl rfl ?_
  refine J.asg rfl rfl rfl rfl rfl ?_
  refine J.asg rfl rfl rfl rfl rfl ?_
  refine J.nil ?_
  refine C.seq ?_
  refine C.region ?_
  refine J.move rfl rfl rfl rfl rfl ?_
  refine J.callr rfl rfl rfl rfl rfl Tryz.call12 (fun w h => Decode_pt_calls w _ bs (h.rb 3 rfl) (by omega) (h.err hg))  ?_
  rintro v31 r31 ⟨Au, cu, fu, rfl, rfl⟩
  refine J.move rfl rfl rfl rfl rfl ?_
  refine J.ext rfl rfl rfl rfl rfl rfl ?_
  refine J.ext rfl rfl rfl rfl rfl rfl ?_
  refine J.allocc rfl rfl rfl rfl Tryz.zeroValue25 rfl (fun b11 => ?_)
  first | refine J.stwc 0 rfl rfl rfl rfl rfl rfl Tryz.sizeOf25 (by first | rfl | assumption | simp [Value.cells, Value.oneCell']) rfl rfl ?_ | refine J.stw 0 rfl rfl rfl rfl rfl rfl Tryz.sizeOf25 (by first | rfl | assumption | simp [Value.cells, Value.oneCell']) rfl rfl ?_
  refine J.asg rfl rfl rfl rfl rfl ?_
  refine J.nil ?_
  refine C.seq ?_
  refine C.region ?_
  refine J.move rfl rfl rfl rfl rfl ?_
  refine J.callr rfl rfl rfl rfl rfl Tryz.call13 (fun w h => rDecode_pt_calls w _ bs (h.ba hb0) (by omega))  ?_
  rintro v36 r36 ⟨Av, cv, fv, rfl, rfl⟩
  refine J.move rfl rfl rfl rfl rfl ?_
  refine J.ext rfl rfl rfl rfl rfl rfl ?_
  refine J.ext rfl rfl rfl rfl rfl rfl ?_
  refine J.allocc rfl rfl rfl rfl Tryz.zeroValue24 rfl (fun b13 => ?_)
  first | refine J.stwc 0 rfl rfl rfl rfl rfl rfl Tryz.sizeOf24 (by first | rfl | assumption | simp [Value.cells, Value.oneCell']) rfl rfl ?_ | refine J.stw 0 rfl rfl rfl rfl rfl rfl Tryz.sizeOf24 (by first | rfl | assumption | simp [Value.cells, Value.oneCell']) rfl rfl ?_
  refine J.asg rfl rfl rfl rfl rfl ?_
  refine J.nil ?_
  refine C.seq ?_
  refine C.regionD0 42 (by kernel_rfl) ?_
  refine JD.take 0 rfl rfl rfl rfl (by kernel_rfl) (fun w h => h) (R.move rfl rfl) ?_
  refine JD.take 1 rfl rfl rfl rfl (by kernel_rfl) (fun w h => h) (R.move rfl rfl) ?_
  refine JD.step 2 rfl (by kernel_rfl) ?_
  refine J.call0 rfl rfl rfl rfl rfl Tryz.call14 (fun w h => SameBytes_calls w _ _ (ptEnc p).1 (ptEnc p).1 (h.rb 5 rfl) (h.rb 4 rfl)) ?_
  refine J.nil ⟨(fun _ w h => h), ?_⟩
  refine JD.take 3 rfl rfl rfl rfl (by kernel_rfl) (fun w h => h) (R.move rfl rfl) ?_
  rw [dec_self]
  refine JD.takeT 4 rfl rfl rfl rfl (by kernel_rfl) (fun w h => h) rfl rfl rfl (R.move rfl rfl) ?_
  refine JD.takeT 6 rfl rfl rfl rfl (by kernel_rfl) (fun w h => h) rfl rfl rfl (R.move rfl rfl) ?_
  refine JD.step 5 rfl (by kernel_rfl) ?_
  refine J.want rfl rfl rfl rfl ?_
  refine J.call0 rfl rfl rfl rfl rfl Tryz.call15 (fun w h => num_calls w _) ?_
  refine J.nil ⟨(fun _ w h => h), ?_⟩
  refine JD.takeT 7 rfl rfl rfl rfl (by kernel_rfl) (fun w h => h) rfl rfl rfl (R.bin rfl rfl rfl (fun w => rfl)) ?_
  refine JD.take 8 rfl rfl rfl rfl (by kernel_rfl) (fun w h => h) (R.pick rfl rfl rfl) ?_
  refine JD.take 9 rfl rfl rfl rfl (by kernel_rfl) (fun w h => h) (R.move rfl rfl) ?_
  rw [show ((ptEnc p).2 == (ptEnc p).2) = true from beq_self_eq_true _]
  refine JD.takeT 10 rfl rfl rfl rfl (by kernel_rfl) (fun w h => h) rfl rfl rfl (R.ldw 2 rfl rfl Tryz.isAgg25 rfl Tryz.sizeOf25) ?_
  refine JD.takeT 11 rfl rfl rfl rfl (by kernel_rfl) (fun w h => h) rfl rfl rfl (R.ldw 0 rfl rfl Tryz.isAgg24 rfl Tryz.sizeOf24) ?_
  refine JD.step 12 rfl (by kernel_rfl) ?_
  refine J.want rfl rfl rfl rfl ?_
  refine J.call0 rfl rfl rfl rfl rfl Tryz.call16 (fun w h => same_calls w (ptDec bs).1 (ptDec bs).1 _ _ (h.rb 3 rfl) (h.rb 1 rfl)) ?_
  refine J.nil ⟨(fun _ w h => h), ?_⟩
  refine JD.take 13 rfl rfl rfl rfl (by kernel_rfl) (fun w h => h) (R.pick rfl rfl rfl) ?_
  refine JD.take 14 rfl rfl rfl rfl (by kernel_rfl) (fun w h => h) (R.move rfl rfl) ?_
  rw [ptEq_refl]
  refine JD.takeT 15 rfl rfl rfl rfl (by kernel_rfl) (fun w h => h) rfl rfl rfl (R.move rfl rfl) ?_
  refine JD.takeT 17 rfl rfl rfl rfl (by kernel_rfl) (fun w h => h) rfl rfl rfl (R.move rfl rfl) ?_
  refine JD.step 16 rfl (by kernel_rfl) ?_
  refine J.want rfl rfl rfl rfl ?_
  refine J.call0 rfl rfl rfl rfl rfl Tryz.call15 (fun w h => num_calls w _) ?_
  refine J.nil ⟨(fun _ w h => h), ?_⟩
  refine JD.takeT 18 rfl rfl rfl rfl (by kernel_rfl) (fun w h => h) rfl rfl rfl (R.bin rfl rfl rfl (fun w => rfl)) ?_
  refine JD.take 19 rfl rfl rfl rfl (by kernel_rfl) (fun w h => h) (R.pick rfl rfl rfl) ?_
  refine JD.take 20 rfl rfl rfl rfl (by kernel_rfl) (fun w h => h) (R.move rfl rfl) ?_
  rw [show ((ptDec bs).2 == (ptDec bs).2) = true from beq_self_eq_true _]
  refine JD.takeT 21 rfl rfl rfl rfl (by kernel_rfl) (fun w h => h) rfl rfl rfl (R.ldw 6 rfl rfl Tryz.isAgg25 rfl Tryz.sizeOf25) ?_
  refine JD.takeT 24 rfl rfl rfl rfl (by kernel_rfl) (fun w h => h) rfl rfl rfl (R.ldw 9 rfl rfl Tryz.isAgg24 rfl Tryz.sizeOf24) ?_
  refine JD.step 22 rfl (by kernel_rfl) ?_
  refine J.want rfl rfl rfl rfl ?_
  refine J.call0 rfl rfl rfl rfl rfl Tryz.call17 (fun w h => Check_pt_calls w p Ax cx (by omega)) ?_
  refine J.nil ⟨(fun _ w h => h), ?_⟩
  refine JD.step 23 rfl (by kernel_rfl) ?_
  refine J.want rfl rfl rfl rfl ?_
  refine J.call0 rfl rfl rfl rfl rfl Tryz.call15 (fun w h => num_calls w _) ?_
  refine J.nil ⟨(fun _ w h => h), ?_⟩
  refine JD.step 25 rfl (by kernel_rfl) ?_
  refine J.want rfl rfl rfl rfl ?_
  refine J.call0 rfl rfl rfl rfl rfl Tryz.call18 (fun w h => rCheck_pt_calls w p A c (by omega)) ?_
  refine J.nil ⟨(fun _ w h => h), ?_⟩
  refine JD.takeT 26 rfl rfl rfl rfl (by kernel_rfl) (fun w h => h) rfl rfl rfl (R.bin rfl rfl rfl (fun w => rfl)) ?_
  refine JD.take 27 rfl rfl rfl rfl (by kernel_rfl) (fun w h => h) (R.pick rfl rfl rfl) ?_
  refine JD.take 28 rfl rfl rfl rfl (by kernel_rfl) (fun w h => h) (R.move rfl rfl) ?_
  rw [show (ptErr p == ptErr p) = true from beq_self_eq_true _]
  refine JD.takeT 29 rfl rfl rfl rfl (by kernel_rfl) (fun w h => h) rfl rfl rfl (R.ldw 6 rfl rfl Tryz.isAgg25 rfl Tryz.sizeOf25) ?_
  refine JD.takeT 30 rfl rfl rfl rfl (by kernel_rfl) (fun w h => h) rfl rfl rfl (R.ldw 9 rfl rfl Tryz.isAgg24 rfl Tryz.sizeOf24) ?_
  refine JD.step 31 rfl (by kernel_rfl) ?_
  refine J.want rfl rfl rfl rfl ?_
  refine J.call0 rfl rfl rfl rfl rfl Tryz.call16 (fun w h => same_calls w p p _ _ (h.rowBA 8 rfl rfl) (h.ba hx0)) ?_
  refine J.nil ⟨(fun _ w h => h), ?_⟩
  refine JD.take 32 rfl rfl rfl rfl (by kernel_rfl) (fun w h => h) (R.pick rfl rfl rfl) ?_
  refine JD.take 33 rfl rfl rfl rfl (by kernel_rfl) (fun w h => h) (R.move rfl rfl) ?_
  rw [ptEq_refl]
  refine JD.takeT 34 rfl rfl rfl rfl (by kernel_rfl) (fun w h => h) rfl rfl rfl (R.move rfl rfl) ?_
  refine JD.takeT 35 rfl rfl rfl rfl (by kernel_rfl) (fun w h => h) rfl rfl rfl (R.move rfl rfl) ?_
  refine JD.step 36 rfl (by kernel_rfl) ?_
  refine J.want rfl rfl rfl rfl ?_
  refine J.call0 rfl rfl rfl rfl rfl Tryz.call14 (fun w h => SameBytes_calls w _ _ bs bs (h.rb 7 rfl) (h.ba hb0)) ?_
  refine J.nil ⟨(fun _ w h => h), ?_⟩
  refine JD.take 37 rfl rfl rfl rfl (by kernel_rfl) (fun w h => h) (R.pick rfl rfl rfl) ?_
  refine JD.take 38 rfl rfl rfl rfl (by kernel_rfl) (fun w h => h) (R.move rfl rfl) ?_
  rw [dec_self]
  refine JD.step 39 rfl (by kernel_rfl) ?_
  refine J.want rfl rfl rfl rfl ?_
  refine J.call0 rfl rfl rfl rfl rfl Tryz.call19 (fun w h => alive_calls w (h.err hg)) ?_
  refine J.nil ⟨(fun _ w h => h), ?_⟩
  refine JD.take 40 rfl rfl rfl rfl (by kernel_rfl) (fun w h => h) (R.pick rfl rfl rfl) ?_
  refine JD.take 41 rfl rfl rfl rfl (by kernel_rfl) (fun w h => h) (R.asg rfl rfl) ?_
  refine JD.done (by kernel_rfl) ?_
  refine C.ret ?_
  exact fin1 rfl (RV.tmp rfl) (fun w' h => h.ret0)
end Go.Proofs.YtiminmnmeknioaaGreatDoor

/- PointDisks: the walk. -/
set_option linter.unusedVariables false
namespace Go.Proofs.YtiminmnmeknioaaGreatDoor
open Go Go.RowKit

theorem dkAlike_self (d : Dk) : dkAlike d d = 0 := by unfold dkAlike; rw [if_pos ⟨rfl, rfl⟩]
theorem PointDisks_calls (w : World) (d : Dk) (sv cv : Value) (p : Pt) (dv : Value) (hs : BSA w sv d.secs) (hc : WSA w cv d.cache) (hd : DkSmall d) (hx : BA w dv p.dt) (hl : p.dt.length ≤ 1048576) (hg : ErrTy w) : Calls Tryz.prog 4 #[.agg #[sv, cv], .agg #[vi p.ep, vi p.sq, vi p.vw, vi p.cm, dv]] w (Ret0 w (.bool true)) := by
  have hx0 := hx
  have hs0 := hs
  have hc0 := hc
  obtain ⟨A, c, rfl, -, -, -⟩ := hx.form
  obtain ⟨As, cs, rfl, -, -, -⟩ := hs.form
  obtain ⟨Ac, cc, rfl, -, -, -⟩ := hc.form
  refine calls_of_C Tryz.func4 rfl Tryz.ntmps4 (Nat.le_of_ble_eq_true rfl) ?_
  refine C.less (L' := [(0, _), (1, _)]) ?_ (Sub.cons rfl (Sub.cons rfl (Sub.nil _))) (fun w h => h)
  refine C.seq ?_
  refine C.region ?_
  first | refine J.boxc rfl rfl rfl rfl rfl rfl (fun b2 => ?_) | refine J.box rfl rfl rfl rfl rfl (fun b2 => ?_)
  first | refine J.boxc rfl rfl rfl rfl rfl rfl (fun b3 => ?_) | refine J.box rfl rfl rfl rfl rfl (fun b3 => ?_)
  refine J.asg rfl rfl rfl rfl rfl ?_
  refine J.nil ?_
  refine C.seq ?_
  refine C.region ?_
  refine J.ldw 1 rfl rfl rfl rfl rfl Tryz.isAgg47 rfl Tryz.sizeOf47 ?_
  refine J.callrl rfl rfl rfl rfl rfl Tryz.call20 (fun w h => Of_calls w d _ _ (h.bsa hs0) (h.wsa hc0) hd)  ?_
  rintro v15 R15 ⟨A1, c1, A2, c2, fp1, fp2, rfl, rfl⟩
  refine J.allocc rfl rfl rfl rfl Tryz.zeroValue50 rfl (fun b5 => ?_)
  first | refine J.stwc 0 rfl rfl rfl rfl rfl rfl Tryz.sizeOf50 (by first | rfl | assumption | simp [Value.cells, Value.oneCell']) rfl rfl ?_ | refine J.stw 0 rfl rfl rfl rfl rfl rfl Tryz.sizeOf50 (by first | rfl | assumption | simp [Value.cells, Value.oneCell']) rfl rfl ?_
  refine J.nil ?_
  refine C.seq ?_
  refine C.mono (nK' := fun ds' L' M' => ds' = [] ∧ ∃ b6 A5 c5 A6 c6 vs fp, Sub [(2, .pointer (some ⟨b2, 0, none⟩)), (3, .pointer (some ⟨b3, 0, none⟩)), (5, .pointer (some ⟨b5, 0, none⟩)), (6, .pointer (some ⟨b6, 0, none⟩)), (7, vi (ptStore d p).2)] L' ∧ ∀ w', St No w M' w' → St No w [blk b6 #[.slice A5 (ptStore d p).1.secs.length c5, .slice A6 (ptStore d p).1.cache.length c6] 50, rowR 22 1 (.slice A5 (ptStore d p).1.secs.length c5) (ptStore d p).1.secs.length vs, gR 5 vs (ptStore d p).1.secs, rwsR fp (.slice A6 (ptStore d p).1.cache.length c6) (ptStore d p).1.cache, blk b5 #[.slice A1 d.secs.length c1, .slice A2 d.cache.length c2] 50, rbsR fp1 (.slice A1 d.secs.length c1) d.secs, rwsR fp2 (.slice A2 d.cache.length c2) d.cache, blk b3 #[vi p.ep, vi p.sq, vi p.vw, vi p.cm, .slice A p.dt.length c] 24, blk b2 #[.slice As d.secs.length cs, .slice Ac d.cache.length cc] 47] w') ?_ ?_
  · refine C.regionD0 10 (by kernel_rfl) ?_
    refine JD.take 0 rfl rfl rfl rfl (by kernel_rfl) (fun w h => h) (R.ldw 0 rfl rfl Tryz.isAgg50 rfl Tryz.sizeOf50) ?_
    refine JD.take 1 rfl rfl rfl rfl (by kernel_rfl) (fun w h => h) (R.ldw 3 rfl rfl Tryz.isAgg24 rfl Tryz.sizeOf24) ?_
    refine JD.both 2 7 rfl rfl (by kernel_rfl) ?_ ?_
    · refine J.callr rfl rfl rfl rfl rfl Tryz.call8 (fun w h => of_pt_calls w p _ (h.ba hx0) (by omega))  ?_
      rintro v19 r19 ⟨Ax, cx, rfl, rfl⟩
      refine J.nil ⟨(fun _ w h => (h.sub ((List.Sublist.refl _).cons _))), ?_⟩
      refine JD.both 3 7 rfl rfl (by kernel_rfl) ?_ ?_
      · refine J.callrl rfl rfl rfl rfl rfl Tryz.call21 (fun w h => Store_calls w d p _ _ _ (h.rbs 2 rfl) (h.rws 3 rfl) (h.rowBA 0 rfl rfl) (by omega))  ?_
        rintro v20 R20 ⟨A5, c5, A6, c6, vs, fp, rfl, rfl⟩
        refine J.nil ⟨(fun _ w h => (h.sub (((((List.Sublist.refl _).cons _).cons _).cons _).cons _))), ?_⟩
        refine JD.take 4 rfl rfl rfl rfl (by kernel_rfl) (fun w h => (h.sub (((((List.Sublist.refl _).cons _).cons _).cons _).cons _))) (R.move rfl rfl) ?_
        refine JD.take 5 rfl rfl rfl rfl (by kernel_rfl) (fun w h => (h.sub (((((List.Sublist.refl _).cons _).cons _).cons _).cons _))) (R.ext rfl rfl rfl) ?_
        refine JD.take 6 rfl rfl rfl rfl (by kernel_rfl) (fun w h => (h.sub (((((List.Sublist.refl _).cons _).cons _).cons _).cons _))) (R.ext rfl rfl rfl) ?_
        refine JD.step 7 rfl (by kernel_rfl) ?_
        refine J.allocc rfl rfl rfl rfl Tryz.zeroValue50 rfl (fun b6 => ?_)
        refine J.nil ⟨(fun _ w h => (h.sub ((((((List.Sublist.refl _).cons _).cons _).cons _).cons _).cons _))), ?_⟩
        refine JD.step 8 rfl (by kernel_rfl) ?_
        first | refine J.stwc 0 rfl rfl rfl rfl rfl rfl Tryz.sizeOf50 (by first | rfl | assumption | simp [Value.cells, Value.oneCell']) rfl rfl ?_ | refine J.stw 0 rfl rfl rfl rfl rfl rfl Tryz.sizeOf50 (by first | rfl | assumption | simp [Value.cells, Value.oneCell']) rfl rfl ?_
        refine J.nil ⟨(fun _ w h => (h.sub ((((((List.Sublist.refl _).cons _).cons _).cons _).cons _).cons _))), ?_⟩
        refine JD.take 9 rfl rfl rfl rfl (by kernel_rfl) (fun w h => (h.sub ((((((List.Sublist.refl _).cons _).cons _).cons _).cons _).cons _))) (R.asg rfl rfl) ?_
        refine JD.done (by kernel_rfl) ?_
        exact ⟨rfl, _, A5, c5, A6, c6, vs, fp, (Sub.cons rfl (Sub.cons rfl (Sub.cons rfl (Sub.cons rfl (Sub.cons rfl (Sub.nil _)))))), fun w h => h.ord [0, 1, 2, 3, 5, 6, 7, 8, 9] (by decide)⟩
      · refine J.allocc rfl rfl rfl rfl Tryz.zeroValue50 rfl (fun b6 => ?_)
        refine J.nil ⟨(fun _ w h => (h.sub (((List.Sublist.refl _).cons _).cons _))), ?_⟩
        refine JD.step 3 rfl (by kernel_rfl) ?_
        refine J.callrl rfl rfl rfl rfl rfl Tryz.call21 (fun w h => Store_calls w d p _ _ _ (h.rbs 3 rfl) (h.rws 4 rfl) (h.rowBA 1 rfl rfl) (by omega))  ?_
        rintro v20 R20 ⟨A5, c5, A6, c6, vs, fp, rfl, rfl⟩
        refine J.nil ⟨(fun _ w h => (h.sub ((((((List.Sublist.refl _).cons _).cons _).cons _).cons _).cons _))), ?_⟩
        refine JD.take 4 rfl rfl rfl rfl (by kernel_rfl) (fun w h => (h.sub ((((((List.Sublist.refl _).cons _).cons _).cons _).cons _).cons _))) (R.move rfl rfl) ?_
        refine JD.take 5 rfl rfl rfl rfl (by kernel_rfl) (fun w h => (h.sub ((((((List.Sublist.refl _).cons _).cons _).cons _).cons _).cons _))) (R.ext rfl rfl rfl) ?_
        refine JD.take 6 rfl rfl rfl rfl (by kernel_rfl) (fun w h => (h.sub ((((((List.Sublist.refl _).cons _).cons _).cons _).cons _).cons _))) (R.ext rfl rfl rfl) ?_
        refine JD.step 8 rfl (by kernel_rfl) ?_
        first | refine J.stwc 3 rfl rfl rfl rfl rfl rfl Tryz.sizeOf50 (by first | rfl | assumption | simp [Value.cells, Value.oneCell']) rfl rfl ?_ | refine J.stw 3 rfl rfl rfl rfl rfl rfl Tryz.sizeOf50 (by first | rfl | assumption | simp [Value.cells, Value.oneCell']) rfl rfl ?_
        refine J.nil ⟨(fun _ w h => (h.sub ((((((List.Sublist.refl _).cons _).cons _).cons _).cons _).cons _))), ?_⟩
        refine JD.take 9 rfl rfl rfl rfl (by kernel_rfl) (fun w h => (h.sub ((((((List.Sublist.refl _).cons _).cons _).cons _).cons _).cons _))) (R.asg rfl rfl) ?_
        refine JD.done (by kernel_rfl) ?_
        exact ⟨rfl, _, A5, c5, A6, c6, vs, fp, (Sub.cons rfl (Sub.cons rfl (Sub.cons rfl (Sub.cons rfl (Sub.cons rfl (Sub.nil _)))))), fun w h => h.ord [3, 0, 1, 2, 5, 6, 7, 8, 9] (by decide)⟩
    · refine J.allocc rfl rfl rfl rfl Tryz.zeroValue50 rfl (fun b6 => ?_)
      refine J.nil ⟨(fun _ w h => (h.sub ((List.Sublist.refl _).cons _))), ?_⟩
      refine JD.step 2 rfl (by kernel_rfl) ?_
      refine J.callr rfl rfl rfl rfl rfl Tryz.call8 (fun w h => of_pt_calls w p _ (h.ba hx0) (by omega))  ?_
      rintro v19 r19 ⟨Ax, cx, rfl, rfl⟩
      refine J.nil ⟨(fun _ w h => (h.sub (((List.Sublist.refl _).cons _).cons _))), ?_⟩
      refine JD.step 3 rfl (by kernel_rfl) ?_
      refine J.callrl rfl rfl rfl rfl rfl Tryz.call21 (fun w h => Store_calls w d p _ _ _ (h.rbs 3 rfl) (h.rws 4 rfl) (h.rowBA 0 rfl rfl) (by omega))  ?_
      rintro v20 R20 ⟨A5, c5, A6, c6, vs, fp, rfl, rfl⟩
      refine J.nil ⟨(fun _ w h => (h.sub ((((((List.Sublist.refl _).cons _).cons _).cons _).cons _).cons _))), ?_⟩
      refine JD.take 4 rfl rfl rfl rfl (by kernel_rfl) (fun w h => (h.sub ((((((List.Sublist.refl _).cons _).cons _).cons _).cons _).cons _))) (R.move rfl rfl) ?_
      refine JD.take 5 rfl rfl rfl rfl (by kernel_rfl) (fun w h => (h.sub ((((((List.Sublist.refl _).cons _).cons _).cons _).cons _).cons _))) (R.ext rfl rfl rfl) ?_
      refine JD.take 6 rfl rfl rfl rfl (by kernel_rfl) (fun w h => (h.sub ((((((List.Sublist.refl _).cons _).cons _).cons _).cons _).cons _))) (R.ext rfl rfl rfl) ?_
      refine JD.step 8 rfl (by kernel_rfl) ?_
      first | refine J.stwc 4 rfl rfl rfl rfl rfl rfl Tryz.sizeOf50 (by first | rfl | assumption | simp [Value.cells, Value.oneCell']) rfl rfl ?_ | refine J.stw 4 rfl rfl rfl rfl rfl rfl Tryz.sizeOf50 (by first | rfl | assumption | simp [Value.cells, Value.oneCell']) rfl rfl ?_
      refine J.nil ⟨(fun _ w h => (h.sub ((((((List.Sublist.refl _).cons _).cons _).cons _).cons _).cons _))), ?_⟩
      refine JD.take 9 rfl rfl rfl rfl (by kernel_rfl) (fun w h => (h.sub ((((((List.Sublist.refl _).cons _).cons _).cons _).cons _).cons _))) (R.asg rfl rfl) ?_
      refine JD.done (by kernel_rfl) ?_
      exact ⟨rfl, _, A5, c5, A6, c6, vs, fp, (Sub.cons rfl (Sub.cons rfl (Sub.cons rfl (Sub.cons rfl (Sub.cons rfl (Sub.nil _)))))), fun w h => h.ord [4, 0, 1, 2, 5, 6, 7, 8, 9] (by decide)⟩
  · rintro _ L' M' ⟨rfl, b6, A5, c5, A6, c6, vs, fp, hsub, hM⟩
    refine C.less ?_ hsub hM
    refine C.seq ?_
    refine C.region ?_
    refine J.ldw 8 rfl rfl rfl rfl rfl Tryz.isAgg47 rfl Tryz.sizeOf47 ?_
    refine J.ldw 7 rfl rfl rfl rfl rfl Tryz.isAgg24 rfl Tryz.sizeOf24 ?_
    refine J.callrl rfl rfl rfl rfl rfl Tryz.call22 (fun w h => rStore_calls w d p _ _ _ (h.bsa hs0) (h.wsa hc0) (h.ba hx0) (by omega))  ?_
    rintro v26 R26 ⟨A7, c7, A8, c8, fp7, fp8, rfl, rfl⟩
    refine J.move rfl rfl rfl rfl rfl ?_
    refine J.ext rfl rfl rfl rfl rfl rfl ?_
    refine J.ext rfl rfl rfl rfl rfl rfl ?_
    refine J.allocc rfl rfl rfl rfl Tryz.zeroValue47 rfl (fun b8 => ?_)
    first | refine J.stwc 0 rfl rfl rfl rfl rfl rfl Tryz.sizeOf47 (by first | rfl | assumption | simp [Value.cells, Value.oneCell']) rfl rfl ?_ | refine J.stw 0 rfl rfl rfl rfl rfl rfl Tryz.sizeOf47 (by first | rfl | assumption | simp [Value.cells, Value.oneCell']) rfl rfl ?_
    refine J.asg rfl rfl rfl rfl rfl ?_
    refine J.nil ?_
    refine C.seq ?_
    refine C.region ?_
    refine J.ldw 7 rfl rfl rfl rfl rfl Tryz.isAgg50 rfl Tryz.sizeOf50 ?_
    refine J.callr rfl rfl rfl rfl rfl Tryz.call23 (fun w h => Load_calls w d _ _ (h.rbs 8 rfl) (h.rws 9 rfl) (h.err hg))  ?_
    rintro v31 r31 ⟨Au, cu, fu, rfl, rfl⟩
    refine J.move rfl rfl rfl rfl rfl ?_
    refine J.ext rfl rfl rfl rfl rfl rfl ?_
    refine J.ext rfl rfl rfl rfl rfl rfl ?_
    refine J.allocc rfl rfl rfl rfl Tryz.zeroValue25 rfl (fun b10 => ?_)
    first | refine J.stwc 0 rfl rfl rfl rfl rfl rfl Tryz.sizeOf25 (by first | rfl | assumption | simp [Value.cells, Value.oneCell']) rfl rfl ?_ | refine J.stw 0 rfl rfl rfl rfl rfl rfl Tryz.sizeOf25 (by first | rfl | assumption | simp [Value.cells, Value.oneCell']) rfl rfl ?_
    refine J.asg rfl rfl rfl rfl rfl ?_
    refine J.nil ?_
    refine C.seq ?_
    refine C.region ?_
    refine J.ldw 13 rfl rfl rfl rfl rfl Tryz.isAgg47 rfl Tryz.sizeOf47 ?_
    refine J.callr rfl rfl rfl rfl rfl Tryz.call24 (fun w h => rLoad_calls w d _ _ (h.bsa hs0) (h.wsa hc0))  ?_
    rintro v36 r36 ⟨Av, cv', fv, rfl, rfl⟩
    refine J.move rfl rfl rfl rfl rfl ?_
    refine J.ext rfl rfl rfl rfl rfl rfl ?_
    refine J.ext rfl rfl rfl rfl rfl rfl ?_
    refine J.allocc rfl rfl rfl rfl Tryz.zeroValue24 rfl (fun b12 => ?_)
    first | refine J.stwc 0 rfl rfl rfl rfl rfl rfl Tryz.sizeOf24 (by first | rfl | assumption | simp [Value.cells, Value.oneCell']) rfl rfl ?_ | refine J.stw 0 rfl rfl rfl rfl rfl rfl Tryz.sizeOf24 (by first | rfl | assumption | simp [Value.cells, Value.oneCell']) rfl rfl ?_
    refine J.asg rfl rfl rfl rfl rfl ?_
    refine J.nil ?_
    refine C.seq ?_
    refine C.region ?_
    refine J.ldw 7 rfl rfl rfl rfl rfl Tryz.isAgg50 rfl Tryz.sizeOf50 ?_
    refine J.ldw 4 rfl rfl rfl rfl rfl Tryz.isAgg47 rfl Tryz.sizeOf47 ?_
    refine J.call0 rfl rfl rfl rfl rfl Tryz.call25 (fun w h => Alike_calls w (ptStore d p).1 (ptStore d p).1 _ _ _ _ ((h.ord [8, 9] (by decide)).bsa_own) (h.rws 10 rfl) (h.rbs 5 rfl) (h.rws 6 rfl)) ?_
    refine J.bin rfl rfl rfl rfl rfl rfl (fun w => rfl) ?_
    refine J.move rfl rfl rfl rfl rfl ?_
    rw [dkAlike_self]
    refine J.want rfl rfl rfl rfl ?_
    refine J.move rfl rfl rfl rfl rfl ?_
    refine J.want rfl rfl rfl rfl ?_
    refine J.call0 rfl rfl rfl rfl rfl Tryz.call15 (fun w h => num_calls w _) ?_
    refine J.want rfl rfl rfl rfl ?_
    refine J.move rfl rfl rfl rfl rfl ?_
    refine J.want rfl rfl rfl rfl ?_
    refine J.bin rfl rfl rfl rfl rfl rfl (fun w => rfl) ?_
    refine J.pick rfl rfl rfl rfl rfl rfl ?_
    refine J.move rfl rfl rfl rfl rfl ?_
    rw [show ((ptStore d p).2 == (ptStore d p).2) = true from beq_self_eq_true _]
    refine J.want rfl rfl rfl rfl ?_
    refine J.ldw 2 rfl rfl rfl rfl rfl Tryz.isAgg25 rfl Tryz.sizeOf25 ?_
    refine J.want rfl rfl rfl rfl ?_
    refine J.ldw 0 rfl rfl rfl rfl rfl Tryz.isAgg24 rfl Tryz.sizeOf24 ?_
    refine J.want rfl rfl rfl rfl ?_
    refine J.call0 rfl rfl rfl rfl rfl Tryz.call16 (fun w h => same_calls w (ptLoad d).1 (ptLoad d).1 _ _ (h.rb 3 rfl) (h.rb 1 rfl)) ?_
    refine J.pick rfl rfl rfl rfl rfl rfl ?_
    refine J.move rfl rfl rfl rfl rfl ?_
    rw [ptEq_refl]
    refine J.want rfl rfl rfl rfl ?_
    refine J.move rfl rfl rfl rfl rfl ?_
    refine J.want rfl rfl rfl rfl ?_
    refine J.call0 rfl rfl rfl rfl rfl Tryz.call15 (fun w h => num_calls w _) ?_
    refine J.want rfl rfl rfl rfl ?_
    refine J.move rfl rfl rfl rfl rfl ?_
    refine J.want rfl rfl rfl rfl ?_
    refine J.bin rfl rfl rfl rfl rfl rfl (fun w => rfl) ?_
    refine J.pick rfl rfl rfl rfl rfl rfl ?_
    refine J.move rfl rfl rfl rfl rfl ?_
    rw [show ((ptLoad d).2 == (ptLoad d).2) = true from beq_self_eq_true _]
    refine J.want rfl rfl rfl rfl ?_
    refine J.ldw 11 rfl rfl rfl rfl rfl Tryz.isAgg50 rfl Tryz.sizeOf50 ?_
    refine J.want rfl rfl rfl rfl ?_
    refine J.ldw 15 rfl rfl rfl rfl rfl Tryz.isAgg47 rfl Tryz.sizeOf47 ?_
    refine J.want rfl rfl rfl rfl ?_
    refine J.call0 rfl rfl rfl rfl rfl Tryz.call25 (fun w h => Alike_calls w d d _ _ _ _ (h.rbs 12 rfl) (h.rws 13 rfl) (h.bsa hs0) (h.wsa hc0)) ?_
    rw [dkAlike_self]
    refine J.want rfl rfl rfl rfl ?_
    refine J.bin rfl rfl rfl rfl rfl rfl (fun w => rfl) ?_
    refine J.pick rfl rfl rfl rfl rfl rfl ?_
    refine J.move rfl rfl rfl rfl rfl ?_
    refine J.want rfl rfl rfl rfl ?_
    refine J.call0 rfl rfl rfl rfl rfl Tryz.call19 (fun w h => alive_calls w (h.err hg)) ?_
    refine J.pick rfl rfl rfl rfl rfl rfl ?_
    refine J.asg rfl rfl rfl rfl rfl ?_
    refine J.nil ?_
    refine C.ret ?_
    exact fin1 rfl (RV.tmp rfl) (fun w' h => h.ret0)
end Go.Proofs.YtiminmnmeknioaaGreatDoor

/- Disks, lists of points and of booleans among the inputs. -/
set_option linter.unusedVariables false
namespace Go.Proofs.YtiminmnmeknioaaGreatDoor
open Go Go.RowKit Go.ChangeShapes Go.WideShapes

def isP (w : World) (p : Pt) (cs : List Value) : Prop := ∃ dv, cs = [vi p.ep, vi p.sq, vi p.vw, vi p.cm, dv] ∧ BA w dv p.dt
section
variable {H : Type} {enc : TypeId × Value → H} {W : World}
theorem Rd.points : Rd enc Tryz.prog W 24 5 isP (fun p n => p.dt.length ≤ n ∧ ∀ k ∈ p.nums, InR64 k) := fun fuel cs x h => by
  obtain ⟨p, dv, rfl, h1, h2, h3⟩ := rd_pt h
  exact ⟨p, ⟨dv, rfl, h1⟩, rfl, h2, h3⟩
theorem Rd.writes : Rd enc Tryz.prog W 89 2 (isW (Old W)) (fun x n => x.2.length ≤ n) := fun fuel cs x h => by
  obtain ⟨hl, hf⟩ := rd_fields Tryz.underlying89 (Go.Deep.hone_of (by kernel_rfl)) (by kernel_rfl) h
  match cs, hl with
  | [c0, c1], _ =>
    obtain ⟨n0, y0, t0, -⟩ := hf 0 _ c0 rfl rfl
    obtain ⟨n1, y1, t1, b1⟩ := hf 1 _ c1 rfl rfl
    obtain ⟨e0, h0, r0⟩ := rd_i64 Tryz.underlying3 t0
    obtain ⟨dv, xs, h4, r4, l4⟩ := rd_bytes Tryz.underlying22 Tryz.underlying5 (by kernel_rfl) t1
    injection h0 with h0 _
    injection h4 with h4 _
    subst h0 h4
    exact ⟨(e0, xs), ⟨_, rfl, r4⟩, rfl, Nat.le_trans l4 b1⟩
theorem rd_dk {fuel : Nat} {cs : List Value} {x : DataW H × List MemPlace} (h : TR enc Tryz.prog W fuel 47 cs x) : ∃ (d : Dk) (sv cv : Value), cs = [sv, cv] ∧ BSA W sv d.secs ∧ WSA W cv d.cache ∧ (Rows.uptoBulk x.1 ≤ 1048576 → DkSmall d) := by
  obtain ⟨hl, hf⟩ := rd_fields Tryz.underlying47 (Go.Deep.hone_of (by kernel_rfl)) (by kernel_rfl) h
  match cs, hl with
  | [c0, c1], _ =>
    obtain ⟨n0, y0, t0, b0⟩ := hf 0 _ c0 rfl rfl
    obtain ⟨n1, y1, t1, b1⟩ := hf 1 _ c1 rfl rfl
    obtain ⟨sv, ss, h0, r0, l0, m0⟩ := rd_bss Tryz.underlying44 Tryz.underlying22 Tryz.underlying5 (by kernel_rfl) (by kernel_rfl) t0
    obtain ⟨cv, ws, h1, r1, l1, m1⟩ := rd_slice Tryz.underlying45 (by kernel_rfl) (by omega) Rd.writes t1
    injection h0 with h0 _
    injection h1 with h1 _
    subst h0 h1
    refine ⟨⟨ss, ws⟩, _, _, rfl, r0, r1, fun hb => ⟨by show ss.length ≤ _; omega, by show ws.length ≤ _; omega, fun x hx => ?_, fun x hx => ?_⟩⟩
    · have := m0 x hx; omega
    · obtain ⟨n, hn, hn2⟩ := m1 x hx; omega
theorem rd_bools {t e : TypeId} {fuel : Nat} {cs : List Value} {x : DataW H × List MemPlace} (ht : Tryz.prog.underlying t = some (.slice e)) (he : Tryz.prog.underlying e = some .bool) (hc : Tryz.prog.cellsOf e = 1) (h : TR enc Tryz.prog W fuel t cs x) : ∃ v xs, cs = [v] ∧ TA W v xs ∧ xs.length ≤ Rows.uptoBulk x.1 := by
  obtain ⟨v, xs, h1, h2, h3, _⟩ := rd_slice (R := isT) (B := fun _ _ => True) ht hc (by omega) (fun fuel cs x h => by
    obtain ⟨b, rfl, _⟩ := DataW.trod_bool he h
    exact ⟨b, rfl, rfl, trivial⟩) h
  exact ⟨v, xs, h1, h2, h3⟩
end
end Go.Proofs.YtiminmnmeknioaaGreatDoor

/- One octet that is another one: the sum finds it. Plain lists. -/
set_option linter.unusedVariables false
namespace Go.Proofs.YtiminmnmeknioaaGreatDoor

theorem xor_zero_eq {a b : UInt32} (h : a ^^^ b = 0) : a = b := by
  have : (a ^^^ b) ^^^ b = 0 ^^^ b := by rw [h]
  rwa [UInt32.xor_assoc, UInt32.xor_self, UInt32.xor_zero, UInt32.zero_xor] at this
theorem crcBit_zero {a : UInt32} (h : crcBit a = 0) : a = 0 := by
  rw [crcBit_if] at h
  split at h
  · exfalso
    have h1 := xor_zero_eq h
    have h2 : (a >>> 1).toNat = (0xedb88320 : UInt32).toNat := by rw [h1]
    rw [UInt32.toNat_shiftRight, Nat.shiftRight_eq_div_pow] at h2
    have h3 := a.toNat_lt
    have h4 : (0xedb88320 : UInt32).toNat = 3988292384 := rfl
    have h5 : (1 : UInt32).toNat % 32 = 1 := rfl
    rw [h4, h5] at h2
    omega
  · rename_i h0
    have h1 : a &&& 1 = 0 := (and_one_two a).resolve_right h0
    have h2 : (a >>> 1).toNat = 0 := by rw [h]; rfl
    rw [UInt32.toNat_shiftRight, Nat.shiftRight_eq_div_pow] at h2
    have h5 : (1 : UInt32).toNat % 32 = 1 := rfl
    rw [h5] at h2
    have h3 : (a &&& 1).toNat = a.toNat % 2 := by rw [UInt32.toNat_and]; exact Nat.and_one_is_mod _
    rw [h1] at h3
    have h4 : (0 : UInt32).toNat = 0 := rfl
    apply UInt32.toNat_inj.1
    omega
theorem crcBit_inj {a b : UInt32} (h : crcBit a = crcBit b) : a = b := by
  apply xor_zero_eq
  apply crcBit_zero
  rw [crcBit_xor, h, UInt32.xor_self]
theorem crc4_inj {a b : UInt32} (h : crc4 a = crc4 b) : a = b := crcBit_inj (crcBit_inj (crcBit_inj (crcBit_inj h)))
theorem xor_cancel {a b c : UInt32} (h : a ^^^ c = b ^^^ c) : a = b := by
  have : (a ^^^ c) ^^^ c = (b ^^^ c) ^^^ c := by rw [h]
  rwa [UInt32.xor_assoc, UInt32.xor_self, UInt32.xor_zero, UInt32.xor_assoc, UInt32.xor_self, UInt32.xor_zero] at this
theorem crcByte_c {a b : UInt32} {x : UInt8} (h : crcByte a x = crcByte b x) : a = b := xor_cancel (crc4_inj (crc4_inj h))
theorem crcByte_b {a : UInt32} {x y : UInt8} (h : crcByte a x = crcByte a y) : x = y := by
  have h1 := crc4_inj (crc4_inj h)
  rw [UInt32.xor_comm a, UInt32.xor_comm a] at h1
  have h2 := xor_cancel h1
  apply UInt8.toNat_inj.1
  have h3 : x.toUInt32.toNat = y.toUInt32.toNat := by rw [h2]
  simpa using h3
theorem crcFold_c : ∀ (xs : List UInt8) {a b : UInt32}, xs.foldl crcByte a = xs.foldl crcByte b → a = b
  | [], _, _, h => h
  | x :: xs, _, _, h => crcByte_c (crcFold_c xs h)
theorem crcFold_set : ∀ (xs : List UInt8) (j : Nat) (c : UInt32) {u v : UInt8}, xs[j]? = some u → u ≠ v → (xs.set j v).foldl crcByte c ≠ xs.foldl crcByte c
  | [], _, _, _, _, h, _ => by simp at h
  | x :: xs, 0, c, u, v, h, hne => fun e => by
    simp only [List.getElem?_cons_zero, Option.some.injEq] at h
    subst h
    simp only [List.set_cons_zero, List.foldl_cons] at e
    exact hne (crcByte_b (crcFold_c xs e)).symm
  | x :: xs, j + 1, c, u, v, h, hne => by
    simp only [List.set_cons_succ, List.foldl_cons]
    exact crcFold_set xs j _ (by simpa using h) hne
theorem not_inj {a b : UInt32} (h : ~~~ a = ~~~ b) : a = b := by
  have : ~~~ ~~~ a = ~~~ ~~~ b := by rw [h]
  rwa [UInt32.not_not, UInt32.not_not] at this
theorem crcSum_set {xs : List UInt8} {j : Nat} {u v : UInt8} (h : xs[j]? = some u) (hne : u ≠ v) : crcSum (xs.set j v) ≠ crcSum xs := fun e => crcFold_set xs j _ h hne (not_inj e)
theorem le4_inj {a b : UInt32} (h : le4 a = le4 b) : a = b := by
  unfold le4 at h
  simp only [List.cons.injEq, and_true] at h
  obtain ⟨h0, h1, h2, h3⟩ := h
  have e : ∀ {x y : UInt8}, x = y → x.toNat = y.toNat := fun h => by rw [h]
  have h0 := e h0
  have h1 := e h1
  have h2 := e h2
  have h3 := e h3
  simp only [UInt32.toNat_toUInt8, UInt32.toNat_shiftRight, Nat.shiftRight_eq_div_pow] at h0 h1 h2 h3
  have k8 : (8 : UInt32).toNat % 32 = 8 := rfl
  have k16 : (16 : UInt32).toNat % 32 = 16 := rfl
  have k24 : (24 : UInt32).toNat % 32 = 24 := rfl
  rw [k8] at h1
  rw [k16] at h2
  rw [k24] at h3
  have ha := a.toNat_lt
  have hb := b.toNat_lt
  apply UInt32.toNat_inj.1
  omega
theorem opened_set {xs : List UInt8} {j : Nat} {u v : UInt8} (h : (xs ++ le4 (crcSum xs))[j]? = some u) (hne : u ≠ v) : (opened ((xs ++ le4 (crcSum xs)).set j v)).2 ≠ 0 := by
  have hj := (List.getElem?_eq_some_iff.1 h).1
  rw [List.length_append, le4_len] at hj
  have hlen : ((xs ++ le4 (crcSum xs)).set j v).length = xs.length + 4 := by rw [List.length_set, List.length_append, le4_len]
  unfold opened
  rw [hlen, if_neg (by omega), show xs.length + 4 - 4 = xs.length by omega, if_neg]
  · simp
  · rcases Nat.lt_or_ge j xs.length with hl | hl
    · rw [List.set_append_left _ _ hl, List.drop_left' (by rw [List.length_set]), List.take_left' (by rw [List.length_set])]
      intro e
      rw [List.getElem?_append_left hl] at h
      exact crcSum_set h hne (le4_inj e).symm
    · rw [List.set_append_right _ _ hl, List.drop_left, List.take_left]
      intro e
      rw [List.getElem?_append_right hl] at h
      have hk : j - xs.length < (le4 (crcSum xs)).length := by rw [le4_len]; omega
      have h1 : ((le4 (crcSum xs)).set (j - xs.length) v)[j - xs.length]? = some v := List.getElem?_set_self hk
      rw [e, h] at h1
      injection h1 with h1
      exact hne h1
theorem decRec_set {p : Pt} (hp : ptErr p = 0) {j : Nat} {u v : UInt8} (h : (ptRec p)[j]? = some u) (hne : u ≠ v) : ∃ e, decRec ((ptRec p).set j v) = .error e ∧ e ≠ 0 := by
  rw [ptBody hp] at h ⊢
  have h1 := opened_set h hne
  exact ⟨_, by unfold decRec; rw [if_pos h1], h1⟩
/-- One octet of a region spoilt, but of its length. -/
theorem spoilt {p : Pt} (hp : ptErr p = 0) {k : Nat} (hk : 2 ≤ k) {u v : UInt8} (h : (ptReg p)[k]? = some u) (hne : u ≠ v) : ∃ e, ptDec ((ptReg p).set k v) = (ptZero, e) ∧ e ≠ 0 := by
  have hl := (ptRec_eq hp).2
  have e : ptReg p = UInt8.ofNat ((ptRec p).length / 256) :: UInt8.ofNat (ptRec p).length :: (ptRec p ++ List.replicate (510 - (ptRec p).length) 0) := by unfold ptReg be2; simp
  have hN : (UInt8.ofNat ((ptRec p).length / 256)).toNat * 256 + (UInt8.ofNat (ptRec p).length).toNat = (ptRec p).length := by
    rw [ofNat8 (by omega), UInt8.toNat_ofNat']
    omega
  rw [e] at h ⊢
  obtain ⟨j, rfl⟩ : ∃ j, k = j + 2 := ⟨k - 2, by omega⟩
  simp only [List.getElem?_cons_succ] at h
  simp only [List.set_cons_succ]
  rw [ptDec_go (by simp; omega) (by rw [hN]; omega), hN]
  rcases Nat.lt_or_ge j (ptRec p).length with hj | hj
  · rw [List.getElem?_append_left hj] at h
    obtain ⟨er, h1, h2⟩ := decRec_set hp h hne
    rw [List.set_append_left _ _ hj, List.take_left' (by rw [List.length_set]), h1]
    exact ⟨er, rfl, h2⟩
  · rw [List.getElem?_append_right hj] at h
    have hjl : j - (ptRec p).length < 510 - (ptRec p).length := by have := (List.getElem?_eq_some_iff.1 h).1; simpa using this
    rw [List.getElem?_replicate, if_pos hjl] at h
    injection h with h
    subst h
    rw [List.set_append_right _ _ hj, List.take_left, List.drop_left, decRec_pt hp]
    have hna : ¬ all0 ((List.replicate (510 - (ptRec p).length) 0).set (j - (ptRec p).length) v) := fun ha => hne (ha v (List.mem_iff_getElem.2 ⟨j - (ptRec p).length, by simpa using hjl, by simp⟩)).symm
    rw [show decide (¬ all0 ((List.replicate (510 - (ptRec p).length) 0).set (j - (ptRec p).length) v)) = true from decide_eq_true hna]
    unfold ptOfRec
    dsimp only [Pt.nums]
    rw [if_neg (by simp), if_neg (by rw [show (⟨p.ep, p.sq, p.vw, p.cm, p.dt⟩ : Pt) = p from rfl, hp]; simp), if_pos rfl]
    exact ⟨23, rfl, by omega⟩
theorem chunk_set {data : List UInt8} (hd : data.length = 512) {k j : Nat} (hj : j < 8) (v : UInt8) : chunk (data.set k v) j = if k / 64 = j then (chunk data j).set (k % 64) v else chunk data j := by
  rw [chunk_eq (by rw [List.length_set]; omega), chunk_eq (by omega), List.drop_set]
  by_cases h : k < j * 64
  · rw [if_pos h, if_neg (by omega)]
  · rw [if_neg h, List.take_set]
    by_cases h2 : k / 64 = j
    · rw [if_pos h2, show k - j * 64 = k % 64 by omega]
    · rw [if_neg h2, List.set_eq_of_length_le]
      rw [List.length_take]
      omega
end Go.Proofs.YtiminmnmeknioaaGreatDoor
/- Points stored in turns. Plain lists. -/
set_option linter.unusedVariables false
namespace Go.Proofs.YtiminmnmeknioaaGreatDoor

structure Turn (d : Dk) (n : Nat) (last old : Pt) : Prop where
  good : Good d 16
  top : 1 ≤ n → ptErr last = 0 ∧ last.ep = (n : Int) ∧ ∀ j, j < 8 → d.secs[n % 2 * 8 + j]? = some (chunk (ptReg last) j)
  low : 2 ≤ n → ptErr old = 0 ∧ old.ep = ((n - 1 : Nat) : Int) ∧ ∀ j, j < 8 → d.secs[(n - 1) % 2 * 8 + j]? = some (chunk (ptReg old) j)
  bad0 : n ≤ 1 → (ptReg1 d (0 : Nat)).2 ≠ 0
  bad1 : n = 0 → (ptReg1 d (1 : Nat)).2 ≠ 0
theorem Turn.zero (p q : Pt) : Turn dkZ 0 p q := ⟨goodZ, fun h => by omega, fun h => by omega, fun _ => regZ 0 (by omega), fun _ => regZ 1 (by omega)⟩
theorem Turn.reg {d : Dk} {n : Nat} {p q : Pt} (h : Turn d n p q) (hn : 1 ≤ n) : ptReg1 d ((n % 2 : Nat)) = (p, 0) := by
  obtain ⟨h1, h2, h3⟩ := h.top hn
  rw [reg_of h.good (n % 2) (by omega) (ptReg p) (ptReg_len h1) h3, ptDec_reg h1]
theorem Turn.reg2 {d : Dk} {n : Nat} {p q : Pt} (h : Turn d n p q) (hn : 2 ≤ n) : ptReg1 d (((n - 1) % 2 : Nat)) = (q, 0) := by
  obtain ⟨h1, h2, h3⟩ := h.low hn
  rw [reg_of h.good ((n - 1) % 2) (by omega) (ptReg q) (ptReg_len h1) h3, ptDec_reg h1]
theorem Turn.step {d : Dk} {n : Nat} {last old p : Pt} (h : Turn d n last old) (hp : ptErr p = 0) (he : p.ep = ((n + 1 : Nat) : Int)) : Turn (ptStore d p).1 (n + 1) p last ∧ (ptStore d p).2 = 0 := by
  have hi : (n + 1) % 2 < 2 := by omega
  have hi2 : p.ep % 2 = (((n + 1) % 2 : Nat) : Int) := by omega
  obtain ⟨s1, s2, s3, s4⟩ := stored h.good hp hi hi2
  have hs := store_good h.good hp hi hi2
  have hland := landPut (fun _ => true) ((n + 1) % 2 * 8) (ptReg p) 8 d.secs (by rw [h.good.1]; omega) 8 (Nat.le_refl _)
  have hsec : (ptStore d p).1.secs = landN (fun _ => true) (putW (((n + 1) % 2 * 8 : Nat) : Int) (ptReg p) 8) d.secs 8 := by rw [hs]
  refine ⟨⟨s1, fun _ => ⟨hp, he, fun j hj => ?_⟩, fun hn => ?_, fun hn => ?_, fun hn => by omega⟩, s2⟩
  · rw [hsec, hland, if_pos ⟨by omega, by omega, rfl⟩, show (n + 1) % 2 * 8 + j - (n + 1) % 2 * 8 = j by omega]
  · obtain ⟨t1, t2, t3⟩ := h.top (by omega)
    refine ⟨t1, t2, fun j hj => ?_⟩
    rw [show n + 1 - 1 = n from rfl, hsec, hland, if_neg (by rintro ⟨a, b, _⟩; omega), t3 j hj]
  · obtain rfl : n = 0 := by omega
    have := h.bad0 (by omega)
    rw [show ((1 - (0 + 1) % 2 : Nat)) = 0 from rfl] at s4
    rw [s4]; exact this
theorem Turn.load0 {d : Dk} {p q : Pt} (h : Turn d 0 p q) : ptLoad d = (ptZero, 21) := by
  rw [load_good h.good]
  rw [ptStep2, if_pos ⟨h.bad0 (by omega), h.bad1 rfl⟩]
theorem Turn.load {d : Dk} {n : Nat} {p q : Pt} (h : Turn d n p q) (hn : 1 ≤ n) : ptLoad d = (p, 0) := by
  refine load_two h.good (i := n % 2) (by omega) (h.reg hn) (fun r hr => ?_)
  rcases Nat.lt_or_ge n 2 with h2 | h2
  · obtain rfl : n = 1 := by omega
    rw [show ((1 - 1 % 2 : Nat)) = 0 from rfl] at hr
    exact absurd (by rw [hr]) (h.bad0 (by omega))
  · rw [show 1 - n % 2 = (n - 1) % 2 by omega, h.reg2 h2] at hr
    injection hr with hr
    subst hr
    rw [(h.low h2).2.1, (h.top hn).2.1]; omega
theorem Turn.spoil {d : Dk} {n : Nat} {p q : Pt} (h : Turn d n p q) (hn : 2 ≤ n) {k : Nat} (hk : 2 ≤ k) (hk2 : k < 512) {x : List UInt8} {u v : UInt8} (hx : d.secs[n % 2 * 8 + k / 64]? = some x) (hu : x[k % 64]? = some u) (hne : u ≠ v) : ptLoad ⟨d.secs.set (n % 2 * 8 + k / 64) (x.set (k % 64) v), d.cache⟩ = (q, 0) := by
  obtain ⟨t1, t2, t3⟩ := h.top (by omega)
  obtain ⟨l1, l2, l3⟩ := h.low hn
  have hlen := ptReg_len t1
  have hxe : x = chunk (ptReg p) (k / 64) := by
    have := t3 (k / 64) (by omega)
    rw [hx] at this; injection this
  have hg : Good ⟨d.secs.set (n % 2 * 8 + k / 64) (x.set (k % 64) v), d.cache⟩ 16 := by
    obtain ⟨g1, g2, g3, g4⟩ := h.good
    refine ⟨by rw [List.length_set]; exact g1, g2, fun y hy => ?_, g4⟩
    rcases List.mem_or_eq_of_mem_set hy with hy | rfl
    · exact g3 y hy
    · rw [List.length_set]; exact g3 x (List.mem_of_getElem? hx)
  have hreg : (ptReg p)[k]? = some u := by
    rw [hxe, chunk_eq (by omega), List.getElem?_take, if_pos (by omega), List.getElem?_drop, show k / 64 * 64 + k % 64 = k by omega] at hu
    exact hu
  obtain ⟨e, he1, he2⟩ := spoilt t1 hk hreg hne
  have hb : ptReg1 ⟨d.secs.set (n % 2 * 8 + k / 64) (x.set (k % 64) v), d.cache⟩ ((n % 2 : Nat)) = (ptZero, e) := by
    rw [reg_of hg (n % 2) (by omega) ((ptReg p).set k v) (by rw [List.length_set]; exact hlen) (fun j hj => ?_), he1]
    rw [chunk_set hlen hj]
    show (d.secs.set _ _)[_]? = _
    rw [List.getElem?_set]
    by_cases hkj : k / 64 = j
    · subst hkj
      rw [if_pos rfl, if_pos (by rw [h.good.1]; omega), if_pos rfl, hxe]
    · rw [if_neg (by omega), if_neg hkj, t3 j hj]
  have ho : ptReg1 ⟨d.secs.set (n % 2 * 8 + k / 64) (x.set (k % 64) v), d.cache⟩ (((n - 1) % 2 : Nat)) = (q, 0) := by
    rw [reg_of hg ((n - 1) % 2) (by omega) (ptReg q) (ptReg_len l1) (fun j hj => ?_), ptDec_reg l1]
    show (d.secs.set _ _)[_]? = _
    rw [List.getElem?_set, if_neg (by omega), l3 j hj]
  refine load_two hg (i := (n - 1) % 2) (by omega) ho (fun r hr => ?_)
  rw [show 1 - (n - 1) % 2 = n % 2 by omega, hb] at hr
  injection hr with _ hr
  exact absurd hr he2
end Go.Proofs.YtiminmnmeknioaaGreatDoor
/- PointTurns: the walk. -/
set_option linter.unusedVariables false
namespace Go.Proofs.YtiminmnmeknioaaGreatDoor
open Go Go.RowKit

theorem pts_form {w : World} {v : Value} {ps : List Pt} (h : RSl 5 isP (Old w) w v ps) : ∃ A c, v = .slice A ps.length c ∧ (0 < ps.length → ∃ b o, A = some ⟨b, o, none⟩ ∧ ∀ j p, ps[j]? = some p → ∃ dv, BA w dv p.dt ∧ ∀ k x, [vi p.ep, vi p.sq, vi p.vw, vi p.cm, dv][k]? = some x → w.cell? ⟨b, o + j * 5 + k, none⟩ = some x) := by
  obtain ⟨A, n, c, rfl, rfl, h1, h2, h3⟩ := h
  refine ⟨A, c, rfl, fun hn => ?_⟩
  obtain ⟨b, o, hA, hb, hc⟩ := h3 hn
  refine ⟨b, o, hA, fun j p hp => ?_⟩
  obtain ⟨cs, _, ⟨dv, rfl, hv⟩, hcs⟩ := hc j p hp
  exact ⟨dv, hv, hcs⟩
theorem bt_dec (bt : UInt8) {n : Nat} (h1 : n ≠ 1) : decide (n = 1 ∨ bt = 0) = ((bt.toNat : Int) == 0) := by
  rw [beq_dec]
  refine decide_eq_decide.2 ⟨fun h => ?_, fun h => .inr ?_⟩
  · rcases h with h | h
    · exact absurd h h1
    · subst h; rfl
  · apply UInt8.toNat_inj.1
    have : ((0 : UInt8)).toNat = 0 := rfl
    omega
theorem rem510 {P : Program} {w : World} {t : TypeId} (n : Int) : (binOp .rem t (.int .i64 n) (.int .i64 510)).run P w = .ok (.int .i64 (n.tmod 510)) w := rfl
theorem rem510p {P : Program} {w : World} {t : TypeId} (n : Int) (h : 0 ≤ n) : (binOp .rem t (.int .i64 n) (.int .i64 510)).run P w = .ok (.int .i64 (n % 510)) w := by
  show Result.ok (Value.int .i64 (n.tmod 510)) w = _
  rw [Int.tmod_eq_emod_of_nonneg h]
theorem rem64 {P : Program} {w : World} {t : TypeId} (k : Nat) : (binOp .rem t (.int .i64 (k : Int)) (.int .i64 64)).run P w = .ok (.int .i64 ((k % 64 : Nat) : Int)) w := by
  show Result.ok (Value.int .i64 ((k : Int).tmod 64)) w = _
  rw [Int.tmod_eq_emod_of_nonneg (by omega), Int.natCast_emod]; rfl
theorem quoK64 {P : Program} {w : World} {t : TypeId} (k : Nat) (h : k ≤ 9223372036854775807) : (binOp .quo t (.int .i64 (k : Int)) (.int .i64 64)).run P w = .ok (.int .i64 ((k / 64 : Nat) : Int)) w := by
  show Result.ok (Value.int .i64 (IntKind.i64.wrap ((k : Int).tdiv 64))) w = _
  rw [Int.tdiv_eq_ediv_of_nonneg (by omega), IntWalk.i64_in _ (by omega)]
  congr 2
theorem tmod510 (n : Int) : -510 < n.tmod 510 ∧ n.tmod 510 < 510 := ⟨Int.lt_tmod_of_pos n (by omega), Int.tmod_lt_of_pos n (by omega)⟩
structure TS where
  i : Nat
  n : Nat
  d : Dk
  p : Pt
  q : Pt
  A1 : Option Addr
  c1 : Nat
  A2 : Option Addr
  c2 : Nat
  vs : List Value
  fp : Nat → Prop
  pv : Value
  qv : Value
def TS.ok (w : World) (N : Nat) (s : TS) : Prop := (s.i ≤ N ∧ s.i ≤ 20 ∧ s.n ≤ s.i) ∧ Turn s.d s.n s.p s.q ∧ BA w s.pv s.p.dt ∧ BA w s.qv s.q.dt
theorem PointTurns_calls (w : World) (sv : Value) (ps : List Pt) (at1 : Int) (bt : UInt8) (hx : RSl 5 isP (Old w) w sv ps) (hl : ps.length ≤ 1048576) (hp : ∀ p ∈ ps, p.dt.length ≤ 1048576 ∧ ∀ k ∈ p.nums, InR64 k) (ha : InR64 at1) (hg : ErrTy w) : Calls Tryz.prog 5 #[sv, vi at1, .int .u8 (bt.toNat : Int)] w (Ret0 w (.bool true)) := by
  obtain ⟨A, c, rfl, hcell⟩ := pts_form hx
  refine calls_of_C Tryz.func5 rfl Tryz.ntmps5 (Nat.le_of_ble_eq_true rfl) ?_
  refine C.less (L' := [(0, _), (1, _), (2, _)]) ?_ (Sub.cons rfl (Sub.cons rfl (Sub.cons rfl (Sub.nil _)))) (fun w h => h)
  refine C.seq ?_
  refine C.region ?_
  refine J.asg rfl rfl rfl rfl rfl ?_
  refine J.nil ?_
  refine C.seq ?_
  refine C.seq ?_
  refine C.region ?_
  refine J.call0 rfl rfl rfl rfl rfl Tryz.call19 (fun w h => alive_calls w (h.err hg)) ?_
  refine J.not rfl rfl rfl rfl rfl ?_
  refine J.nil ?_
  refine C.cond_f rfl ?_
  refine C.skip ?_
  refine C.seq ?_
  refine C.region ?_
  refine J.callrl rfl rfl rfl rfl rfl Tryz.call26 (fun w h => by have := New_calls w 16; rw [new16] at this; exact this)  ?_
  rintro v24 R24 ⟨A1, c1, A2, c2, vs, fp, rfl, rfl⟩
  refine J.move rfl rfl rfl rfl rfl ?_
  refine J.ext rfl rfl rfl rfl rfl rfl ?_
  refine J.ext rfl rfl rfl rfl rfl rfl ?_
  refine J.allocc rfl rfl rfl rfl Tryz.zeroValue50 rfl (fun b7 => ?_)
  first | refine J.stwc 0 rfl rfl rfl rfl rfl rfl Tryz.sizeOf50 (by first | rfl | assumption | simp [Value.cells, Value.oneCell']) rfl rfl ?_ | refine J.stw 0 rfl rfl rfl rfl rfl rfl Tryz.sizeOf50 (by first | rfl | assumption | simp [Value.cells, Value.oneCell']) rfl rfl ?_
  refine J.asg rfl rfl rfl rfl rfl ?_
  refine J.nil ?_
  refine C.seq ?_
  refine C.seq ?_
  refine C.region ?_
  refine J.move rfl rfl rfl rfl rfl ?_
  refine J.call0 rfl rfl rfl rfl rfl Tryz.call15 (fun w h => num_calls w 0) ?_
  refine J.bin rfl rfl rfl rfl rfl rfl (fun w => rfl) ?_
  refine J.nil ?_
  refine C.cond_f rfl ?_
  refine C.skip ?_
  refine C.seq ?_
  refine C.region ?_
  refine J.allocc rfl rfl rfl rfl Tryz.zeroValue24 rfl (fun b9 => ?_)
  refine J.allocc rfl rfl rfl rfl Tryz.zeroValue24 rfl (fun b10 => ?_)
  refine J.nil ?_
  refine C.seq ?_
  refine C.region ?_
  refine J.asg rfl rfl rfl rfl rfl ?_
  refine J.nil ?_
  refine C.seq ?_
  refine C.seq ?_
  refine C.region ?_
  refine J.asg rfl rfl rfl rfl rfl ?_
  refine J.nil ?_
  refine C.block ?_
  refine C.loop (σ := TS) (TS.ok w ps.length) (fun s => [(0, .slice A ps.length c), (1, vi at1), (2, .int .u8 (bt.toNat : Int)), (7, .pointer (some ⟨b7, 0, none⟩)), (9, .pointer (some ⟨b9, 0, none⟩)), (10, .pointer (some ⟨b10, 0, none⟩)), (11, vi (s.n : Int)), (12, vi (s.i : Int))]) (fun s => [blk b7 #[.slice s.A1 s.d.secs.length s.c1, .slice s.A2 s.d.cache.length s.c2] 50, rowR 22 1 (.slice s.A1 s.d.secs.length s.c1) s.d.secs.length s.vs, gR 5 s.vs s.d.secs, rwsR s.fp (.slice s.A2 s.d.cache.length s.c2) s.d.cache, blk b9 #[vi s.p.ep, vi s.p.sq, vi s.p.vw, vi s.p.cm, s.pv] 24, blk b10 #[vi s.q.ep, vi s.q.sq, vi s.q.vw, vi s.q.cm, s.qv] 24]) (fun s => ps.length - s.i) ⟨0, 0, dkZ, ptZero, ptZero, A1, c1, A2, c2, vs, fp, .slice none 0 0, .slice none 0 0⟩ ⟨⟨Nat.zero_le _, by dsimp only; omega, Nat.le_refl _⟩, Turn.zero _ _, RB.nil, RB.nil⟩ ?_ ?_ ?_
  · exact (Sub.cons rfl (Sub.cons rfl (Sub.cons rfl (Sub.cons rfl (Sub.cons rfl (Sub.cons rfl (Sub.cons rfl (Sub.cons rfl (Sub.nil _)))))))))
  · exact fun w h => h.ord [2, 3, 4, 5, 1, 0] (by decide)
  rintro ⟨i, n, d, p, q, A1, c1, A2, c2, vs, fp, pv, qv⟩ ⟨⟨hi, hi20, hni⟩, ht, hpv, hqv⟩
  dsimp only at hi hi20 hni ht hpv hqv ⊢
  obtain ⟨Ap, cp, rfl, -, -, -⟩ := hpv.form
  obtain ⟨Aq, cq, rfl, -, -, -⟩ := hqv.form
  refine C.seq ?_
  refine C.seq ?_
  refine C.mono (nK' := fun ds' L' M' => ds' = [] ∧ Sub [(0, .slice A ps.length c), (1, vi at1), (2, .int .u8 (bt.toNat : Int)), (7, .pointer (some ⟨b7, 0, none⟩)), (9, .pointer (some ⟨b9, 0, none⟩)), (10, .pointer (some ⟨b10, 0, none⟩)), (11, vi (n : Int)), (12, vi (i : Int)), (37, .bool (decide (i < ps.length ∧ i < 20)))] L' ∧ ∀ w', St No w M' w' → St No w [blk b7 #[.slice A1 d.secs.length c1, .slice A2 d.cache.length c2] 50, rowR 22 1 (.slice A1 d.secs.length c1) d.secs.length vs, gR 5 vs d.secs, rwsR fp (.slice A2 d.cache.length c2) d.cache, blk b9 #[vi p.ep, vi p.sq, vi p.vw, vi p.cm, .slice Ap p.dt.length cp] 24, blk b10 #[vi q.ep, vi q.sq, vi q.vw, vi q.cm, .slice Aq q.dt.length cq] 24] w') ?_ ?_
  · refine C.region ?_
    refine J.move rfl rfl rfl rfl rfl ?_
    refine J.move rfl rfl rfl rfl rfl ?_
    refine J.len rfl rfl rfl rfl rfl Tryz.runUnderlying60 ?_
    refine J.bin rfl rfl rfl rfl rfl rfl (fun w => rfl) ?_
    refine J.move rfl rfl rfl rfl rfl ?_
    rcases Decidable.em ((i : Int) < (ps.length : Int)) with h1 | h1
    · rw [decide_eq_true h1]
      refine J.want rfl rfl rfl rfl ?_
      refine J.move rfl rfl rfl rfl rfl ?_
      refine J.want rfl rfl rfl rfl ?_
      refine J.bin rfl rfl rfl rfl rfl rfl (fun w => rfl) ?_
      refine J.pick rfl rfl rfl rfl rfl rfl ?_
      refine J.nil ?_
      rw [show decide (i < ps.length ∧ i < 20) = decide ((i : Int) < 20) from decide_eq_decide.2 (by omega)]
      exact ⟨rfl, (Sub.cons rfl (Sub.cons rfl (Sub.cons rfl (Sub.cons rfl (Sub.cons rfl (Sub.cons rfl (Sub.cons rfl (Sub.cons rfl (Sub.cons rfl (Sub.nil _)))))))))), fun w h => h⟩
    · rw [decide_eq_false h1]
      refine J.pass rfl rfl rfl rfl rfl (by intro h; cases h) ?_
      refine J.pass rfl rfl rfl rfl rfl (by intro h; cases h) ?_
      refine J.pick rfl rfl rfl rfl rfl rfl ?_
      refine J.nil ?_
      rw [show decide (i < ps.length ∧ i < 20) = false from decide_eq_false (by omega)]
      exact ⟨rfl, (Sub.cons rfl (Sub.cons rfl (Sub.cons rfl (Sub.cons rfl (Sub.cons rfl (Sub.cons rfl (Sub.cons rfl (Sub.cons rfl (Sub.cons rfl (Sub.nil _)))))))))), fun w h => h⟩
  · rintro _ L' M' ⟨rfl, hsub, hM⟩
    refine C.less ?_ hsub hM
    refine C.cond rfl (fun h => ?_) (fun h => ?_)
    · obtain ⟨hlt, hi2⟩ := of_decide_eq_true h
      obtain ⟨x, hxi⟩ : ∃ x, ps[i]? = some x := ⟨_, List.getElem?_eq_getElem hlt⟩
      obtain ⟨ba, oa, rfl, hcl⟩ := hcell (by omega)
      obtain ⟨dv, hdv, hc5⟩ := hcl i x hxi
      have hdv0 := hdv
      obtain ⟨Ad, cd, rfl, -, -, -⟩ := hdv.form
      obtain ⟨hxl, hxr⟩ := hp x (List.mem_of_getElem? hxi)
      refine C.skip ?_
      refine C.seq ?_
      refine C.block ?_
      refine C.seq ?_
      refine C.region ?_
      refine J.move rfl rfl rfl rfl rfl ?_
      refine J.move rfl rfl rfl rfl rfl ?_
      first | refine J.idxn rfl rfl rfl rfl rfl rfl Tryz.runUnderlying60 Tryz.sizeOf24 (by omega) ?_ | refine J.idx rfl rfl rfl rfl rfl rfl Tryz.runUnderlying60 Tryz.sizeOf24 (by omega) ?_
      refine J.ldn (cs := [_, _, _, _, _]) rfl rfl rfl rfl rfl Tryz.isAgg24 Tryz.sizeOf24 (fun w h k v hk => by have := hc5 k v hk; rw [Addr.add_mid]; exact cellOld h this) ?_
      refine J.allocc rfl rfl rfl rfl Tryz.zeroValue24 rfl (fun b13 => ?_)
      first | refine J.stwc 0 rfl rfl rfl rfl rfl rfl Tryz.sizeOf24 (by first | rfl | assumption | simp [Value.cells, Value.oneCell']) rfl rfl ?_ | refine J.stw 0 rfl rfl rfl rfl rfl rfl Tryz.sizeOf24 (by first | rfl | assumption | simp [Value.cells, Value.oneCell']) rfl rfl ?_
      refine J.nil ?_
      refine C.seq ?_
      refine C.region ?_
      refine J.move rfl rfl rfl rfl rfl ?_
      refine J.bin rfl rfl rfl rfl rfl rfl (fun w => ra_add (by omega)) ?_
      refine J.fld (k := 0) rfl rfl rfl rfl rfl Tryz.runUnderlying24 rfl rfl Tryz.sizeOf3 ?_
      refine J.st1 0 rfl rfl rfl rfl rfl rfl Tryz.sizeOf3 (by first | rfl | assumption | simp [Value.cells, Value.oneCell']) rfl rfl rfl ?_
      refine J.nil ?_
      refine C.seq ?_
      obtain ⟨x', hx'⟩ : ∃ x' : Pt, x' = ⟨(n : Int) + 1, x.sq, x.vw, x.cm, x.dt⟩ := ⟨_, rfl⟩
      have hxl' : x'.dt.length ≤ 140737488355328 := by rw [hx']; dsimp only; omega
      refine C.mono (nK' := fun ds' L' M' => ds' = [] ∧ ∃ b14 A3 c3 A4 c4 vs2 fp2, Sub [(0, .slice (some ⟨ba, oa, none⟩) ps.length c), (1, vi at1), (2, .int .u8 (bt.toNat : Int)), (7, .pointer (some ⟨b7, 0, none⟩)), (9, .pointer (some ⟨b9, 0, none⟩)), (10, .pointer (some ⟨b10, 0, none⟩)), (11, vi (n : Int)), (12, vi (i : Int)), (13, .pointer (some ⟨b13, 0, none⟩)), (14, .pointer (some ⟨b14, 0, none⟩)), (15, vi (ptStore d x').2)] L' ∧ ∀ w', St No w M' w' → St No w [blk b14 #[.slice A3 (ptStore d x').1.secs.length c3, .slice A4 (ptStore d x').1.cache.length c4] 50, rowR 22 1 (.slice A3 (ptStore d x').1.secs.length c3) (ptStore d x').1.secs.length vs2, gR 5 vs2 (ptStore d x').1.secs, rwsR fp2 (.slice A4 (ptStore d x').1.cache.length c4) (ptStore d x').1.cache, blk b13 #[vi ((n : Int) + 1), vi x.sq, vi x.vw, vi x.cm, .slice Ad x.dt.length cd] 24, blk b7 #[.slice A1 d.secs.length c1, .slice A2 d.cache.length c2] 50, rowR 22 1 (.slice A1 d.secs.length c1) d.secs.length vs, gR 5 vs d.secs, rwsR fp (.slice A2 d.cache.length c2) d.cache, blk b9 #[vi p.ep, vi p.sq, vi p.vw, vi p.cm, .slice Ap p.dt.length cp] 24, blk b10 #[vi q.ep, vi q.sq, vi q.vw, vi q.cm, .slice Aq q.dt.length cq] 24] w') ?_ ?_
      · refine C.regionD0 10 (by kernel_rfl) ?_
        refine JD.take 0 rfl rfl rfl rfl (by kernel_rfl) (fun w h => h) (R.ldw 1 rfl rfl Tryz.isAgg50 rfl Tryz.sizeOf50) ?_
        refine JD.take 1 rfl rfl rfl rfl (by kernel_rfl) (fun w h => h) (R.ldw 0 rfl rfl Tryz.isAgg24 rfl Tryz.sizeOf24) ?_
        refine JD.both 2 7 rfl rfl (by kernel_rfl) ?_ ?_
        · refine J.callr rfl rfl rfl rfl rfl Tryz.call8 (fun w h => of_pt_calls w ⟨(n : Int) + 1, x.sq, x.vw, x.cm, x.dt⟩ _ (h.ba hdv0) (by dsimp only; omega))  ?_
          rintro v50 r50 ⟨Ax, cx, rfl, rfl⟩
          refine J.nil ⟨(fun _ w h => (h.sub ((List.Sublist.refl _).cons _))), ?_⟩
          refine JD.both 3 7 rfl rfl (by kernel_rfl) ?_ ?_
          · refine J.callrl rfl rfl rfl rfl rfl Tryz.call21 (fun w h => by have := Store_calls w d x' _ _ _ ((h.ord [3, 4] (by decide)).bsa_own) (h.rws 5 rfl) (h.rowBA 0 rfl (by rw [hx'])) hxl'; rw [hx'] at this; exact this)  ?_
            rintro v51 R51 ⟨A3, c3, A4, c4, vs2, fp2, rfl, rfl⟩
            refine J.nil ⟨(fun _ w h => (h.sub (((((List.Sublist.refl _).cons _).cons _).cons _).cons _))), ?_⟩
            refine JD.take 4 rfl rfl rfl rfl (by kernel_rfl) (fun w h => (h.sub (((((List.Sublist.refl _).cons _).cons _).cons _).cons _))) (R.move rfl rfl) ?_
            refine JD.take 5 rfl rfl rfl rfl (by kernel_rfl) (fun w h => (h.sub (((((List.Sublist.refl _).cons _).cons _).cons _).cons _))) (R.ext rfl rfl rfl) ?_
            refine JD.take 6 rfl rfl rfl rfl (by kernel_rfl) (fun w h => (h.sub (((((List.Sublist.refl _).cons _).cons _).cons _).cons _))) (R.ext rfl rfl rfl) ?_
            refine JD.step 7 rfl (by kernel_rfl) ?_
            refine J.allocc rfl rfl rfl rfl Tryz.zeroValue50 rfl (fun b14 => ?_)
            refine J.nil ⟨(fun _ w h => (h.sub ((((((List.Sublist.refl _).cons _).cons _).cons _).cons _).cons _))), ?_⟩
            refine JD.step 8 rfl (by kernel_rfl) ?_
            first | refine J.stwc 0 rfl rfl rfl rfl rfl rfl Tryz.sizeOf50 (by first | rfl | assumption | simp [Value.cells, Value.oneCell']) rfl rfl ?_ | refine J.stw 0 rfl rfl rfl rfl rfl rfl Tryz.sizeOf50 (by first | rfl | assumption | simp [Value.cells, Value.oneCell']) rfl rfl ?_
            refine J.nil ⟨(fun _ w h => (h.sub ((((((List.Sublist.refl _).cons _).cons _).cons _).cons _).cons _))), ?_⟩
            refine JD.take 9 rfl rfl rfl rfl (by kernel_rfl) (fun w h => (h.sub ((((((List.Sublist.refl _).cons _).cons _).cons _).cons _).cons _))) (R.asg rfl rfl) ?_
            refine JD.done (by kernel_rfl) ?_
            exact ⟨rfl, _, A3, c3, A4, c4, vs2, fp2, by rw [hx']; exact (Sub.cons rfl (Sub.cons rfl (Sub.cons rfl (Sub.cons rfl (Sub.cons rfl (Sub.cons rfl (Sub.cons rfl (Sub.cons rfl (Sub.cons rfl (Sub.cons rfl (Sub.cons rfl (Sub.nil _)))))))))))), fun w h => by rw [hx']; exact h.ord [0, 1, 2, 3, 5, 6, 7, 8, 9, 10, 11] (by decide)⟩
          · refine J.allocc rfl rfl rfl rfl Tryz.zeroValue50 rfl (fun b14 => ?_)
            refine J.nil ⟨(fun _ w h => (h.sub (((List.Sublist.refl _).cons _).cons _))), ?_⟩
            refine JD.step 3 rfl (by kernel_rfl) ?_
            refine J.callrl rfl rfl rfl rfl rfl Tryz.call21 (fun w h => by have := Store_calls w d x' _ _ _ ((h.ord [4, 5] (by decide)).bsa_own) (h.rws 6 rfl) (h.rowBA 1 rfl (by rw [hx'])) hxl'; rw [hx'] at this; exact this)  ?_
            rintro v51 R51 ⟨A3, c3, A4, c4, vs2, fp2, rfl, rfl⟩
            refine J.nil ⟨(fun _ w h => (h.sub ((((((List.Sublist.refl _).cons _).cons _).cons _).cons _).cons _))), ?_⟩
            refine JD.take 4 rfl rfl rfl rfl (by kernel_rfl) (fun w h => (h.sub ((((((List.Sublist.refl _).cons _).cons _).cons _).cons _).cons _))) (R.move rfl rfl) ?_
            refine JD.take 5 rfl rfl rfl rfl (by kernel_rfl) (fun w h => (h.sub ((((((List.Sublist.refl _).cons _).cons _).cons _).cons _).cons _))) (R.ext rfl rfl rfl) ?_
            refine JD.take 6 rfl rfl rfl rfl (by kernel_rfl) (fun w h => (h.sub ((((((List.Sublist.refl _).cons _).cons _).cons _).cons _).cons _))) (R.ext rfl rfl rfl) ?_
            refine JD.step 8 rfl (by kernel_rfl) ?_
            first | refine J.stwc 3 rfl rfl rfl rfl rfl rfl Tryz.sizeOf50 (by first | rfl | assumption | simp [Value.cells, Value.oneCell']) rfl rfl ?_ | refine J.stw 3 rfl rfl rfl rfl rfl rfl Tryz.sizeOf50 (by first | rfl | assumption | simp [Value.cells, Value.oneCell']) rfl rfl ?_
            refine J.nil ⟨(fun _ w h => (h.sub ((((((List.Sublist.refl _).cons _).cons _).cons _).cons _).cons _))), ?_⟩
            refine JD.take 9 rfl rfl rfl rfl (by kernel_rfl) (fun w h => (h.sub ((((((List.Sublist.refl _).cons _).cons _).cons _).cons _).cons _))) (R.asg rfl rfl) ?_
            refine JD.done (by kernel_rfl) ?_
            exact ⟨rfl, _, A3, c3, A4, c4, vs2, fp2, by rw [hx']; exact (Sub.cons rfl (Sub.cons rfl (Sub.cons rfl (Sub.cons rfl (Sub.cons rfl (Sub.cons rfl (Sub.cons rfl (Sub.cons rfl (Sub.cons rfl (Sub.cons rfl (Sub.cons rfl (Sub.nil _)))))))))))), fun w h => by rw [hx']; exact h.ord [3, 0, 1, 2, 5, 6, 7, 8, 9, 10, 11] (by decide)⟩
        · refine J.allocc rfl rfl rfl rfl Tryz.zeroValue50 rfl (fun b14 => ?_)
          refine J.nil ⟨(fun _ w h => (h.sub ((List.Sublist.refl _).cons _))), ?_⟩
          refine JD.step 2 rfl (by kernel_rfl) ?_
          refine J.callr rfl rfl rfl rfl rfl Tryz.call8 (fun w h => of_pt_calls w ⟨(n : Int) + 1, x.sq, x.vw, x.cm, x.dt⟩ _ (h.ba hdv0) (by dsimp only; omega))  ?_
          rintro v50 r50 ⟨Ax, cx, rfl, rfl⟩
          refine J.nil ⟨(fun _ w h => (h.sub (((List.Sublist.refl _).cons _).cons _))), ?_⟩
          refine JD.step 3 rfl (by kernel_rfl) ?_
          refine J.callrl rfl rfl rfl rfl rfl Tryz.call21 (fun w h => by have := Store_calls w d x' _ _ _ ((h.ord [4, 5] (by decide)).bsa_own) (h.rws 6 rfl) (h.rowBA 0 rfl (by rw [hx'])) hxl'; rw [hx'] at this; exact this)  ?_
          rintro v51 R51 ⟨A3, c3, A4, c4, vs2, fp2, rfl, rfl⟩
          refine J.nil ⟨(fun _ w h => (h.sub ((((((List.Sublist.refl _).cons _).cons _).cons _).cons _).cons _))), ?_⟩
          refine JD.take 4 rfl rfl rfl rfl (by kernel_rfl) (fun w h => (h.sub ((((((List.Sublist.refl _).cons _).cons _).cons _).cons _).cons _))) (R.move rfl rfl) ?_
          refine JD.take 5 rfl rfl rfl rfl (by kernel_rfl) (fun w h => (h.sub ((((((List.Sublist.refl _).cons _).cons _).cons _).cons _).cons _))) (R.ext rfl rfl rfl) ?_
          refine JD.take 6 rfl rfl rfl rfl (by kernel_rfl) (fun w h => (h.sub ((((((List.Sublist.refl _).cons _).cons _).cons _).cons _).cons _))) (R.ext rfl rfl rfl) ?_
          refine JD.step 8 rfl (by kernel_rfl) ?_
          first | refine J.stwc 4 rfl rfl rfl rfl rfl rfl Tryz.sizeOf50 (by first | rfl | assumption | simp [Value.cells, Value.oneCell']) rfl rfl ?_ | refine J.stw 4 rfl rfl rfl rfl rfl rfl Tryz.sizeOf50 (by first | rfl | assumption | simp [Value.cells, Value.oneCell']) rfl rfl ?_
          refine J.nil ⟨(fun _ w h => (h.sub ((((((List.Sublist.refl _).cons _).cons _).cons _).cons _).cons _))), ?_⟩
          refine JD.take 9 rfl rfl rfl rfl (by kernel_rfl) (fun w h => (h.sub ((((((List.Sublist.refl _).cons _).cons _).cons _).cons _).cons _))) (R.asg rfl rfl) ?_
          refine JD.done (by kernel_rfl) ?_
          exact ⟨rfl, _, A3, c3, A4, c4, vs2, fp2, by rw [hx']; exact (Sub.cons rfl (Sub.cons rfl (Sub.cons rfl (Sub.cons rfl (Sub.cons rfl (Sub.cons rfl (Sub.cons rfl (Sub.cons rfl (Sub.cons rfl (Sub.cons rfl (Sub.cons rfl (Sub.nil _)))))))))))), fun w h => by rw [hx']; exact h.ord [4, 0, 1, 2, 5, 6, 7, 8, 9, 10, 11] (by decide)⟩
      · rintro _ L' M' ⟨rfl, b14, A3, c3, A4, c4, vs2, fp2, hsub, hM⟩
        refine C.less ?_ hsub hM
        refine C.seq ?_
        refine C.seq ?_
        refine C.region ?_
        refine J.move rfl rfl rfl rfl rfl ?_
        refine J.call0 rfl rfl rfl rfl rfl Tryz.call15 (fun w h => num_calls w _) ?_
        refine J.bin rfl rfl rfl rfl rfl rfl (fun w => rfl) ?_
        refine J.nil ?_
        rcases Decidable.em (ptErr x' = 0) with h3 | h3
        · obtain ⟨ht2, hs2⟩ := ht.step h3 (by rw [hx']; dsimp only; omega)
          rw [hs2]
          refine C.cond_f rfl ?_
          refine C.skip ?_
          refine C.seq ?_
          refine C.regionD (fun w' => St No w [blk b14 #[.slice A3 (ptStore d x').1.secs.length c3, .slice A4 (ptStore d x').1.cache.length c4] 50, blk b9 #[vi p.ep, vi p.sq, vi p.vw, vi p.cm, .slice Ap p.dt.length cp] 24, blk b13 #[vi ((n : Int) + 1), vi x.sq, vi x.vw, vi x.cm, .slice Ad x.dt.length cd] 24] w') 5 (by kernel_rfl) ?_
          refine JD.take 0 rfl rfl rfl rfl (by kernel_rfl) (fun w h => ((h.ord [0, 9, 4] (by decide)))) (R.ldw 0 rfl rfl Tryz.isAgg50 rfl Tryz.sizeOf50) ?_
          refine JD.take 1 rfl rfl rfl rfl (by kernel_rfl) (fun w h => ((h.ord [0, 9, 4] (by decide)))) (R.ldw 1 rfl rfl Tryz.isAgg24 rfl Tryz.sizeOf24) ?_
          refine JD.take 2 rfl rfl rfl rfl (by kernel_rfl) (fun w h => ((h.ord [0, 9, 4] (by decide)))) (R.ldw 2 rfl rfl Tryz.isAgg24 rfl Tryz.sizeOf24) ?_
          refine JD.step 3 rfl (by kernel_rfl) ?_
          first | refine J.stwc 5 rfl rfl rfl rfl rfl rfl Tryz.sizeOf50 (by first | rfl | assumption | simp [Value.cells, Value.oneCell']) rfl rfl ?_ | refine J.stw 5 rfl rfl rfl rfl rfl rfl Tryz.sizeOf50 (by first | rfl | assumption | simp [Value.cells, Value.oneCell']) rfl rfl ?_
          refine J.nil ⟨(fun _ w h => ((h.ord [0, 9, 4] (by decide)))), ?_⟩
          refine JD.step 4 rfl (by kernel_rfl) ?_
          first | refine J.stwc 10 rfl rfl rfl rfl rfl rfl Tryz.sizeOf24 (by first | rfl | assumption | simp [Value.cells, Value.oneCell']) rfl rfl ?_ | refine J.stw 10 rfl rfl rfl rfl rfl rfl Tryz.sizeOf24 (by first | rfl | assumption | simp [Value.cells, Value.oneCell']) rfl rfl ?_
          refine J.nil ⟨(fun _ w h => ((h.ord [0, 9, 4] (by decide)))), ?_⟩
          refine JD.step 5 rfl (by kernel_rfl) ?_
          first | refine J.stwc 9 rfl rfl rfl rfl rfl rfl Tryz.sizeOf24 (by first | rfl | assumption | simp [Value.cells, Value.oneCell']) rfl rfl ?_ | refine J.stw 9 rfl rfl rfl rfl rfl rfl Tryz.sizeOf24 (by first | rfl | assumption | simp [Value.cells, Value.oneCell']) rfl rfl ?_
          refine J.nil ⟨(fun h => by cases h), ?_⟩
          refine JD.done (by kernel_rfl) ?_
          refine C.region ?_
          refine J.move rfl rfl rfl rfl rfl ?_
          refine J.bin rfl rfl rfl rfl rfl rfl (fun w => ra_add (by omega)) ?_
          refine J.asg rfl rfl rfl rfl rfl ?_
          refine J.nil ?_
          refine C.region ?_
          refine J.move rfl rfl rfl rfl rfl ?_
          refine J.bin rfl rfl rfl rfl rfl rfl (fun w => ra_add (by omega)) ?_
          refine J.asg rfl rfl rfl rfl rfl ?_
          refine J.nil ?_
          subst hx'
          exact ⟨rfl, ⟨i + 1, n + 1, _, _, p, A3, c3, A4, c4, vs2, fp2, _, _⟩, ⟨⟨by dsimp only; omega, by dsimp only; omega, by dsimp only; omega⟩, ht2, hdv0, hpv⟩, by dsimp only; omega, (Sub.cons rfl (Sub.cons rfl (Sub.cons rfl (Sub.cons rfl (Sub.cons rfl (Sub.cons rfl (Sub.cons rfl (Sub.cons rfl (Sub.nil _))))))))), fun w h => h.ord [5, 1, 2, 3, 9, 10] (by decide)⟩
        · rw [show (ptStore d x').2 = ptErr x' by rw [store_bad ht.good h3], show (ptErr x' != 0) = true by simpa using h3]
          refine C.cond_t rfl ?_
          refine C.seq ?_
          refine C.seq ?_
          refine C.region ?_
          refine J.ldw 4 rfl rfl rfl rfl rfl Tryz.isAgg24 rfl Tryz.sizeOf24 ?_
          refine J.call0 rfl rfl rfl rfl rfl Tryz.call18 (fun w h => rCheck_pt_calls w ⟨(n : Int) + 1, x.sq, x.vw, x.cm, x.dt⟩ Ad cd (by dsimp only; omega)) ?_
          refine J.bin rfl rfl rfl rfl rfl rfl (fun w => rfl) ?_
          refine J.nil ?_
          rw [← hx', show (ptErr x' == 0) = false by simpa using h3]
          refine C.cond_f rfl ?_
          refine C.skip ?_
          refine C.exit rfl ?_
          refine C.region ?_
          refine J.move rfl rfl rfl rfl rfl ?_
          refine J.bin rfl rfl rfl rfl rfl rfl (fun w => ra_add (by omega)) ?_
          refine J.asg rfl rfl rfl rfl rfl ?_
          refine J.nil ?_
          exact ⟨rfl, ⟨i + 1, n, d, p, q, A1, c1, A2, c2, vs, fp, _, _⟩, ⟨⟨by dsimp only; omega, by dsimp only; omega, by dsimp only; omega⟩, ht, hpv, hqv⟩, by dsimp only; omega, (Sub.cons rfl (Sub.cons rfl (Sub.cons rfl (Sub.cons rfl (Sub.cons rfl (Sub.cons rfl (Sub.cons rfl (Sub.cons rfl (Sub.nil _))))))))), fun w h => h.ord [5, 6, 7, 8, 9, 10] (by decide)⟩
    · refine C.exit rfl ?_
      refine C.seq ?_
      refine C.region ?_
      refine J.ldw 0 rfl rfl rfl rfl rfl Tryz.isAgg50 rfl Tryz.sizeOf50 ?_
      rcases Nat.eq_zero_or_pos n with h0 | h0
      · have hld : ptLoad d = (ptZero, 21) := by rw [h0] at ht; exact ht.load0
        refine J.callr rfl rfl rfl rfl rfl Tryz.call23 (fun w h => by have := Load_calls w d _ _ ((h.ord [1, 2] (by decide)).bsa_own) (h.rws 3 rfl) (h.err hg); rw [hld] at this; exact this)  ?_
        rintro v67 r67 ⟨Au, cu, fu, rfl, rfl⟩
        refine J.move rfl rfl rfl rfl rfl ?_
        refine J.ext rfl rfl rfl rfl rfl rfl ?_
        refine J.ext rfl rfl rfl rfl rfl rfl ?_
        refine J.allocc rfl rfl rfl rfl Tryz.zeroValue25 rfl (fun b16 => ?_)
        first | refine J.stwc 0 rfl rfl rfl rfl rfl rfl Tryz.sizeOf25 (by first | rfl | assumption | simp [Value.cells, Value.oneCell']) rfl rfl ?_ | refine J.stw 0 rfl rfl rfl rfl rfl rfl Tryz.sizeOf25 (by first | rfl | assumption | simp [Value.cells, Value.oneCell']) rfl rfl ?_
        refine J.asg rfl rfl rfl rfl rfl ?_
        refine J.nil ?_
        refine C.seq ?_
        refine C.seq ?_
        refine C.region ?_
        refine J.move rfl rfl rfl rfl rfl ?_
        refine J.bin rfl rfl rfl rfl rfl rfl (fun w => rfl) ?_
        refine J.nil ?_
        rw [show ((n : Int) == 0) = true by rw [h0]; rfl]
        refine C.cond_t rfl ?_
        refine C.seq ?_
        refine C.region ?_
        refine J.move rfl rfl rfl rfl rfl ?_
        refine J.call0 rfl rfl rfl rfl rfl Tryz.call15 (fun w h => num_calls w 21) ?_
        refine J.bin rfl rfl rfl rfl rfl rfl (fun w => rfl) ?_
        refine J.move rfl rfl rfl rfl rfl ?_
        refine J.want rfl rfl rfl rfl ?_
        refine J.fld (k := 0) rfl rfl rfl rfl rfl Tryz.runUnderlying25 rfl rfl Tryz.sizeOf3 ?_
        refine J.want rfl rfl rfl rfl ?_
        refine J.ldo 0 rfl rfl rfl rfl rfl Tryz.isAgg3 rfl rfl ?_
        refine J.want rfl rfl rfl rfl ?_
        refine J.bin rfl rfl rfl rfl rfl rfl (fun w => rfl) ?_
        refine J.pick rfl rfl rfl rfl rfl rfl ?_
        refine J.asg rfl rfl rfl rfl rfl ?_
        refine J.nil ?_
        refine C.ret ?_
        exact fin1 rfl (RV.tmp rfl) (fun w' h => h.ret0)
      · have hld : ptLoad d = (p, 0) := ht.load h0
        refine J.callr rfl rfl rfl rfl rfl Tryz.call23 (fun w h => by have := Load_calls w d _ _ ((h.ord [1, 2] (by decide)).bsa_own) (h.rws 3 rfl) (h.err hg); rw [hld] at this; exact this)  ?_
        rintro v67 r67 ⟨Au, cu, fu, rfl, rfl⟩
        refine J.move rfl rfl rfl rfl rfl ?_
        refine J.ext rfl rfl rfl rfl rfl rfl ?_
        refine J.ext rfl rfl rfl rfl rfl rfl ?_
        refine J.allocc rfl rfl rfl rfl Tryz.zeroValue25 rfl (fun b16 => ?_)
        first | refine J.stwc 0 rfl rfl rfl rfl rfl rfl Tryz.sizeOf25 (by first | rfl | assumption | simp [Value.cells, Value.oneCell']) rfl rfl ?_ | refine J.stw 0 rfl rfl rfl rfl rfl rfl Tryz.sizeOf25 (by first | rfl | assumption | simp [Value.cells, Value.oneCell']) rfl rfl ?_
        refine J.asg rfl rfl rfl rfl rfl ?_
        refine J.nil ?_
        refine C.seq ?_
        refine C.seq ?_
        refine C.region ?_
        refine J.move rfl rfl rfl rfl rfl ?_
        refine J.bin rfl rfl rfl rfl rfl rfl (fun w => rfl) ?_
        refine J.nil ?_
        rw [show ((n : Int) == 0) = false by rw [beq_eq_false_iff_ne]; omega]
        refine C.cond_f rfl ?_
        refine C.skip ?_
        refine C.seq ?_
        refine C.seq ?_
        refine C.region ?_
        refine J.move rfl rfl rfl rfl rfl ?_
        refine J.call0 rfl rfl rfl rfl rfl Tryz.call15 (fun w h => num_calls w 0) ?_
        refine J.bin rfl rfl rfl rfl rfl rfl (fun w => rfl) ?_
        refine J.move rfl rfl rfl rfl rfl ?_
        refine J.want rfl rfl rfl rfl ?_
        refine J.ldw 0 rfl rfl rfl rfl rfl Tryz.isAgg25 rfl Tryz.sizeOf25 ?_
        refine J.want rfl rfl rfl rfl ?_
        refine J.ldw 6 rfl rfl rfl rfl rfl Tryz.isAgg24 rfl Tryz.sizeOf24 ?_
        refine J.want rfl rfl rfl rfl ?_
        refine J.call0 rfl rfl rfl rfl rfl Tryz.call16 (fun w h => same_calls w p p _ _ (h.rb 1 rfl) (h.ba hpv)) ?_
        rw [ptEq_refl]
        refine J.want rfl rfl rfl rfl ?_
        refine J.not rfl rfl rfl rfl rfl ?_
        refine J.pick rfl rfl rfl rfl rfl rfl ?_
        refine J.nil ?_
        refine C.cond_f rfl ?_
        refine C.skip ?_
        refine C.seq ?_
        refine C.seq ?_
        refine C.mono (nK' := fun ds' L' M' => ds' = [] ∧ Sub [(1, vi at1), (2, .int .u8 (bt.toNat : Int)), (7, .pointer (some ⟨b7, 0, none⟩)), (9, .pointer (some ⟨b9, 0, none⟩)), (10, .pointer (some ⟨b10, 0, none⟩)), (94, .bool (decide (n = 1 ∨ bt = 0)))] L' ∧ ∀ w', St No w M' w' → St No w [blk b7 #[.slice A1 d.secs.length c1, .slice A2 d.cache.length c2] 50, rowR 22 1 (.slice A1 d.secs.length c1) d.secs.length vs, gR 5 vs d.secs, rwsR fp (.slice A2 d.cache.length c2) d.cache, blk b9 #[vi p.ep, vi p.sq, vi p.vw, vi p.cm, .slice Ap p.dt.length cp] 24, blk b10 #[vi q.ep, vi q.sq, vi q.vw, vi q.cm, .slice Aq q.dt.length cq] 24] w') ?_ ?_
        · refine C.region ?_
          refine J.move rfl rfl rfl rfl rfl ?_
          refine J.bin rfl rfl rfl rfl rfl rfl (fun w => rfl) ?_
          refine J.move rfl rfl rfl rfl rfl ?_
          rcases Decidable.em (n = 1) with h1 | h1
          · rw [show ((n : Int) == 1) = true by rw [h1]; rfl]
            refine J.pass rfl rfl rfl rfl rfl (by intro h; cases h) ?_
            refine J.pass rfl rfl rfl rfl rfl (by intro h; cases h) ?_
            refine J.pick rfl rfl rfl rfl rfl rfl ?_
            refine J.nil ?_
            rw [show decide (n = 1 ∨ bt = 0) = true from decide_eq_true (.inl h1)]
            exact ⟨rfl, (Sub.cons rfl (Sub.cons rfl (Sub.cons rfl (Sub.cons rfl (Sub.cons rfl (Sub.cons rfl (Sub.nil _))))))), fun w h => h.ord [2, 3, 4, 5, 6, 7] (by decide)⟩
          · rw [show ((n : Int) == 1) = false by rw [beq_eq_false_iff_ne]; omega]
            refine J.want rfl rfl rfl rfl ?_
            refine J.move rfl rfl rfl rfl rfl ?_
            refine J.want rfl rfl rfl rfl ?_
            refine J.bin rfl rfl rfl rfl rfl rfl (fun w => rfl) ?_
            refine J.pick rfl rfl rfl rfl rfl rfl ?_
            refine J.nil ?_
            rw [bt_dec bt h1]
            exact ⟨rfl, (Sub.cons rfl (Sub.cons rfl (Sub.cons rfl (Sub.cons rfl (Sub.cons rfl (Sub.cons rfl (Sub.nil _))))))), fun w h => h.ord [2, 3, 4, 5, 6, 7] (by decide)⟩
        · rintro _ L' M' ⟨rfl, hsub, hM⟩
          refine C.less ?_ hsub hM
          refine C.cond rfl (fun h4 => ?_) (fun h4 => ?_)
          · refine C.seq ?_
            refine C.region ?_
            refine J.asg rfl rfl rfl rfl rfl ?_
            refine J.nil ?_
            refine C.ret ?_
            exact fin1 rfl (RV.tmp rfl) (fun w' h => h.ret0)
          · obtain ⟨h5, h6⟩ : n ≠ 1 ∧ bt ≠ 0 := by have := of_decide_eq_false h4; exact ⟨fun e => this (.inl e), fun e => this (.inr e)⟩
            refine C.skip ?_
            refine C.seq ?_
            refine C.region ?_
            refine J.move rfl rfl rfl rfl rfl ?_
            refine J.bin rfl rfl rfl rfl rfl rfl (fun w => rem510 _) ?_
            have hz1 := tmod510 at1
            obtain ⟨z, hz⟩ : ∃ z, at1.tmod 510 = z := ⟨_, rfl⟩
            rw [hz] at hz1 ⊢
            refine J.bin rfl rfl rfl rfl rfl rfl (fun w => ra_add (by omega)) ?_
            refine J.bin rfl rfl rfl rfl rfl rfl (fun w => rem510p _ (by omega)) ?_
            obtain ⟨m, hm⟩ : ∃ m : Nat, (z + 510) % 510 = (m : Int) := ⟨((z + 510) % 510).toNat, by omega⟩
            have hm2 : m < 510 := by omega
            rw [hm]
            refine J.bin rfl rfl rfl rfl rfl rfl (fun w => ra_add (by omega)) ?_
            refine J.asg rfl rfl rfl rfl rfl ?_
            refine J.nil ?_
            refine C.seq ?_
            refine C.seq ?_
            refine C.region ?_
            refine J.fld (k := 0) rfl rfl rfl rfl rfl Tryz.runUnderlying50 rfl rfl Tryz.sizeOf44 ?_
            refine J.ldo 0 rfl rfl rfl rfl rfl Tryz.isAgg44 rfl rfl ?_
            refine J.len rfl rfl rfl rfl rfl Tryz.runUnderlying44 ?_
            refine J.bin rfl rfl rfl rfl rfl rfl (fun w => rfl) ?_
            refine J.move rfl rfl rfl rfl rfl ?_
            obtain ⟨k, hk⟩ : ∃ k, m + 2 = k := ⟨_, rfl⟩
            rw [show (2 : Int) + (m : Int) = (k : Int) by omega]
            have hlen := ht.good.1
            have hep := (ht.top (by omega)).2.1
            refine J.fact (p := vs.length = d.secs.length) (fun w h => (h.get 2 rfl).1) ?_
            intro hvl
            refine J.fact (fun w h => row_some (h.get 1 rfl) (by omega)) ?_
            rintro ⟨bs, rfl⟩
            obtain ⟨jj, hjj⟩ : ∃ jj, n % 2 * 8 + k / 64 = jj := ⟨_, rfl⟩
            obtain ⟨y, hy⟩ : ∃ y, d.secs[jj]? = some y := ⟨_, List.getElem?_eq_getElem (by omega)⟩
            obtain ⟨v, hv⟩ : ∃ v, vs[jj]? = some v := ⟨_, List.getElem?_eq_getElem (by omega)⟩
            refine J.fact (fun w h => row_form ((h.get 2 rfl).2.1 jj v y hv hy)) ?_
            rintro ⟨Av, cv, rfl, -, -⟩
            have hy64 : y.length = 64 := ht.good.2.2.1 y (List.mem_of_getElem? hy)
            obtain ⟨u, hu⟩ : ∃ u, y[k % 64]? = some u := ⟨_, List.getElem?_eq_getElem (by omega)⟩
            rw [show ((d.secs.length : Int) != 16) = false by rw [hlen]; rfl]
            refine J.want rfl rfl rfl rfl ?_
            refine J.fld (k := 0) rfl rfl rfl rfl rfl Tryz.runUnderlying50 rfl rfl Tryz.sizeOf44 ?_
            refine J.want rfl rfl rfl rfl ?_
            refine J.ldo 0 rfl rfl rfl rfl rfl Tryz.isAgg44 rfl rfl ?_
            refine J.want rfl rfl rfl rfl ?_
            refine J.fld (k := 0) rfl rfl rfl rfl rfl Tryz.runUnderlying24 rfl rfl Tryz.sizeOf3 ?_
            refine J.want rfl rfl rfl rfl ?_
            refine J.ldo 4 rfl rfl rfl rfl rfl Tryz.isAgg3 rfl rfl ?_
            refine J.want rfl rfl rfl rfl ?_
            refine J.bin rfl rfl rfl rfl rfl rfl (fun w => rem2 _ (by omega)) ?_
            refine J.want rfl rfl rfl rfl ?_
            refine J.bin rfl rfl rfl rfl rfl rfl (fun w => ra_mul (by omega)) ?_
            refine J.want rfl rfl rfl rfl ?_
            refine J.move rfl rfl rfl rfl rfl ?_
            refine J.want rfl rfl rfl rfl ?_
            refine J.bin rfl rfl rfl rfl rfl rfl (fun w => quoK64 _ (by omega)) ?_
            refine J.want rfl rfl rfl rfl ?_
            refine J.bin rfl rfl rfl rfl rfl rfl (fun w => ra_add (by omega)) ?_
            refine J.want rfl rfl rfl rfl ?_
            first | refine J.idx1 rfl rfl rfl rfl rfl rfl Tryz.runUnderlying44 Tryz.sizeOf22 (by omega) ?_ | refine J.idx rfl rfl rfl rfl rfl rfl Tryz.runUnderlying44 Tryz.sizeOf22 (by omega) ?_
            refine J.want rfl rfl rfl rfl ?_
            have hep2 : p.ep % 2 = ((n % 2 : Nat) : Int) := by omega
            have hidx : 0 + (8 * (p.ep % 2) + ((k / 64 : Nat) : Int)).toNat * 1 = jj := by rw [hep2]; omega
            refine J.ld rfl rfl rfl rfl rfl Tryz.isAgg22 (fun w h => by rw [hidx]; exact h.rcell 1 rfl hv) ?_
            refine J.want rfl rfl rfl rfl ?_
            refine J.len rfl rfl rfl rfl rfl Tryz.runUnderlying22 ?_
            refine J.want rfl rfl rfl rfl ?_
            refine J.bin rfl rfl rfl rfl rfl rfl (fun w => rfl) ?_
            refine J.pick rfl rfl rfl rfl rfl rfl ?_
            refine J.nil ?_
            rw [show ((y.length : Int) != 64) = false by rw [hy64]; rfl]
            refine C.cond_f rfl ?_
            refine C.ex (fun gq : Nat × Nat × Array Value => [blk gq.1 gq.2.2 5, gX 5 jj vs d.secs, blk b7 #[.slice (some ⟨bs, 0, none⟩) d.secs.length c1, .slice A2 d.cache.length c2] 50, rowR 22 1 (.slice (some ⟨bs, 0, none⟩) d.secs.length c1) d.secs.length vs, rwsR fp (.slice A2 d.cache.length c2) d.cache, blk b9 #[vi p.ep, vi p.sq, vi p.vw, vi p.cm, .slice Ap p.dt.length cp] 24, blk b10 #[vi q.ep, vi q.sq, vi q.vw, vi q.cm, .slice Aq q.dt.length cq] 24]) _ (fun w h => (h.ord [2, 0, 1, 3, 4, 5] (by decide)).gopen hv hy (by omega)) ?_
            rintro ⟨gb, gc, gcur⟩ ⟨hva, hg1, hg2, hg3, hg4⟩
            dsimp only at hva hg1 hg2 hg3 hg4 ⊢
            injection hva with hva1 _ hva2
            subst hva1 hva2
            refine C.skip ?_
            refine C.seq ?_
            refine C.region ?_
            refine J.fld (k := 0) rfl rfl rfl rfl rfl Tryz.runUnderlying50 rfl rfl Tryz.sizeOf44 ?_
            refine J.ldo 2 rfl rfl rfl rfl rfl Tryz.isAgg44 rfl rfl ?_
            refine J.fld (k := 0) rfl rfl rfl rfl rfl Tryz.runUnderlying24 rfl rfl Tryz.sizeOf3 ?_
            refine J.ldo 5 rfl rfl rfl rfl rfl Tryz.isAgg3 rfl rfl ?_
            refine J.bin rfl rfl rfl rfl rfl rfl (fun w => rem2 _ (by omega)) ?_
            refine J.bin rfl rfl rfl rfl rfl rfl (fun w => ra_mul (by omega)) ?_
            refine J.move rfl rfl rfl rfl rfl ?_
            refine J.bin rfl rfl rfl rfl rfl rfl (fun w => quoK64 _ (by omega)) ?_
            refine J.bin rfl rfl rfl rfl rfl rfl (fun w => ra_add (by omega)) ?_
            first | refine J.idx1 rfl rfl rfl rfl rfl rfl Tryz.runUnderlying44 Tryz.sizeOf22 (by omega) ?_ | refine J.idx rfl rfl rfl rfl rfl rfl Tryz.runUnderlying44 Tryz.sizeOf22 (by omega) ?_
            refine J.ld rfl rfl rfl rfl rfl Tryz.isAgg22 (fun w h => by rw [hidx]; exact h.rcell 3 rfl hv) ?_
            refine J.move rfl rfl rfl rfl rfl ?_
            refine J.bin rfl rfl rfl rfl rfl rfl (fun w => rem64 _) ?_
            first | refine J.idx1 rfl rfl rfl rfl rfl rfl Tryz.runUnderlying22 Tryz.sizeOf5 (by omega) ?_ | refine J.idx rfl rfl rfl rfl rfl rfl Tryz.runUnderlying22 Tryz.sizeOf5 (by omega) ?_
            refine J.ld rfl rfl rfl rfl rfl Tryz.isAgg5 (fun w h => cellO h 0 rfl (by rw [Nat.zero_add]; exact getArr hg4 (by rw [List.getElem?_map, hu]; rfl))) ?_
            refine J.move rfl rfl rfl rfl rfl ?_
            refine J.bin rfl rfl rfl rfl rfl rfl (fun w => u8_xor u bt) ?_
            first | refine J.idx1 rfl rfl rfl rfl rfl rfl Tryz.runUnderlying22 Tryz.sizeOf5 (by omega) ?_ | refine J.idx rfl rfl rfl rfl rfl rfl Tryz.runUnderlying22 Tryz.sizeOf5 (by omega) ?_
            have hne : u ≠ u ^^^ bt := fun e => h6 (by
              have e2 : u ^^^ u = u ^^^ (u ^^^ bt) := by rw [← e]
              rw [UInt8.xor_self, ← UInt8.xor_assoc, UInt8.xor_self, UInt8.zero_xor] at e2
              exact e2.symm)
            have hsp := ht.spoil (by omega) (k := k) (by omega) (by omega) (x := y) (by rw [hjj]; exact hy) hu hne
            rw [hjj] at hsp
            have hyl : (y.set (k % 64) (u ^^^ bt)).length = y.length := List.length_set
            refine J.st1 0 rfl rfl rfl rfl rfl rfl Tryz.sizeOf5 rfl rfl (by rw [Nat.blt_eq]; omega) rfl ?_
            refine J.nil ?_
            refine C.seq ?_
            refine C.region ?_
            refine J.ldw 2 rfl rfl rfl rfl rfl Tryz.isAgg50 rfl Tryz.sizeOf50 ?_
            refine J.callr rfl rfl rfl rfl rfl Tryz.call23 (fun w h => by have hb := ((h.gclose (y := y.set (k % 64) (u ^^^ bt)) (by rw [hyl]; exact hv) (by rw [hyl]; exact hg1) hg2 (by simpa using hg3) (by rw [hyl, Nat.zero_add, setArr hg4 (by omega), List.map_set])).ord [2, 0] (by decide)).bsa_own; have := Load_calls w ⟨d.secs.set jj (y.set (k % 64) (u ^^^ bt)), d.cache⟩ _ _ hb (h.rws 4 rfl) (h.err hg); rw [hsp] at this; exact this)  ?_
            rintro v139 r139 ⟨Aw, cw, fw, rfl, rfl⟩
            refine J.move rfl rfl rfl rfl rfl ?_
            refine J.ext rfl rfl rfl rfl rfl rfl ?_
            refine J.ext rfl rfl rfl rfl rfl rfl ?_
            refine J.allocc rfl rfl rfl rfl Tryz.zeroValue25 rfl (fun b19 => ?_)
            first | refine J.stwc 0 rfl rfl rfl rfl rfl rfl Tryz.sizeOf25 (by first | rfl | assumption | simp [Value.cells, Value.oneCell']) rfl rfl ?_ | refine J.stw 0 rfl rfl rfl rfl rfl rfl Tryz.sizeOf25 (by first | rfl | assumption | simp [Value.cells, Value.oneCell']) rfl rfl ?_
            refine J.asg rfl rfl rfl rfl rfl ?_
            refine J.nil ?_
            refine C.seq ?_
            refine C.region ?_
            refine J.move rfl rfl rfl rfl rfl ?_
            refine J.call0 rfl rfl rfl rfl rfl Tryz.call15 (fun w h => num_calls w 0) ?_
            refine J.bin rfl rfl rfl rfl rfl rfl (fun w => rfl) ?_
            refine J.move rfl rfl rfl rfl rfl ?_
            refine J.want rfl rfl rfl rfl ?_
            refine J.ldw 0 rfl rfl rfl rfl rfl Tryz.isAgg25 rfl Tryz.sizeOf25 ?_
            refine J.want rfl rfl rfl rfl ?_
            refine J.ldw 8 rfl rfl rfl rfl rfl Tryz.isAgg24 rfl Tryz.sizeOf24 ?_
            refine J.want rfl rfl rfl rfl ?_
            refine J.call0 rfl rfl rfl rfl rfl Tryz.call16 (fun w h => same_calls w q q _ _ (h.rb 1 rfl) (h.ba hqv)) ?_
            refine J.pick rfl rfl rfl rfl rfl rfl ?_
            refine J.asg rfl rfl rfl rfl rfl ?_
            refine J.nil ?_
            refine C.ret ?_
            rw [ptEq_refl]
            exact fin1 rfl (RV.tmp rfl) (fun w' h => h.ret0)
end Go.Proofs.YtiminmnmeknioaaGreatDoor

/- A point is put and only some of it lands. Plain lists. -/
set_option linter.unusedVariables false
namespace Go.Proofs.YtiminmnmeknioaaGreatDoor

theorem load_some {d : Dk} {n : Nat} (h : Good d n) {i : Nat} (hi : i < 2) {p : Pt} (h1 : ptReg1 d i = (p, 0)) : ∃ g, ptLoad d = (g, 0) := by
  rw [load_good h, ptStep2]
  match i, hi with
  | 0, _ =>
    rw [h1, if_neg (by simp)]
    split
    · exact ⟨_, rfl⟩
    · exact ⟨_, rfl⟩
  | 1, _ =>
    rw [show ptReg1 d ((1 : Nat) : Int) = (p, 0) from h1, if_neg (by simp)]
    split
    · exact ⟨_, rfl⟩
    · exact ⟨_, rfl⟩
theorem oldNew (kp : Nat → Bool) {e a b : Pt} (he : ptErr e = 0) (ha : ptErr a = 0) (hb : ptErr b = 0) {A : Nat} (hA : 2 ≤ A) (ea : a.ep = (A : Int)) (ee : e.ep = ((A - 1 : Nat) : Int)) (eb : b.ep = ((A + 1 : Nat) : Int)) {d1 d2 d3 d4 : Dk} {c1 c2 c3 c4 : Int} (s1 : ptStore dkZ e = (d1, c1)) (s2 : ptStore d1 a = (d2, c2)) (s3 : dkPutAll d2 (8 * (b.ep % 2)) (ptReg b) = (d3, c3)) (s4 : dkLand kp d3 = (d4, c4)) :
    c1 = 0 ∧ c2 = 0 ∧ c3 = 0 ∧ c4 = 0 ∧ ∃ g, ptLoad d4 = (g, 0) ∧ ((∀ j, j < 8 → kp j = true) → g = b) := by
  have hlb := ptReg_len hb
  obtain ⟨g1, k1, -, -⟩ := stored goodZ he (i := (A - 1) % 2) (by omega) (by omega)
  rw [s1] at g1 k1
  dsimp only at g1 k1
  obtain ⟨g2, k2, r2, -⟩ := stored g1 ha (i := A % 2) (by omega) (by omega)
  rw [s2] at g2 k2 r2
  dsimp only at g2 k2 r2
  obtain ⟨g3, k3, b3⟩ := g2.landed kp ((A + 1) % 2 * 8) (ptReg b) hlb (by omega)
  rw [show 8 * (b.ep % 2) = (((A + 1) % 2 * 8 : Nat) : Int) by omega, k3] at s3
  injection s3 with e3 e3'
  subst e3
  have hd4 : dkLand kp ⟨d2.secs, putW (((A + 1) % 2 * 8 : Nat) : Int) (ptReg b) 8⟩ = (⟨landN kp (putW (((A + 1) % 2 * 8 : Nat) : Int) (ptReg b) 8) d2.secs 8, []⟩, 0) := by
    unfold dkLand
    rw [if_neg (by rw [b3]; simp), putW_len]
  rw [hd4] at s4
  injection s4 with e4 e4'
  have hland := landPut kp ((A + 1) % 2 * 8) (ptReg b) 8 d2.secs (by rw [g2.1]; omega) 8 (Nat.le_refl _)
  have hsec : d4.secs = landN kp (putW (((A + 1) % 2 * 8 : Nat) : Int) (ptReg b) 8) d2.secs 8 := by rw [← e4]
  have g4 : Good d4 16 := by rw [← e4]; exact g3
  have ra : ptReg1 d4 ((A % 2 : Nat)) = (a, 0) := by
    rw [← r2]
    refine reg_congr g4 g2 (A % 2) (by omega) (fun j hj => ?_)
    rw [hsec, hland, if_neg (by rintro ⟨x, y, _⟩; omega)]
  refine ⟨k1, k2, e3'.symm, e4'.symm, ?_⟩
  obtain ⟨g, hg⟩ := load_some g4 (i := A % 2) (by omega) ra
  refine ⟨g, hg, fun hall => ?_⟩
  have rb : ptReg1 d4 (((A + 1) % 2 : Nat)) = (b, 0) := by
    rw [reg_of g4 ((A + 1) % 2) (by omega) (ptReg b) hlb (fun j hj => ?_), ptDec_reg hb]
    rw [hsec, hland, if_pos ⟨by omega, by omega, hall _ (by omega)⟩, show (A + 1) % 2 * 8 + j - (A + 1) % 2 * 8 = j by omega]
  have hl2 := load_two g4 (i := (A + 1) % 2) (by omega) rb (fun q hq => by
    rw [show 1 - (A + 1) % 2 = A % 2 by omega, ra] at hq
    injection hq with hq
    subst hq
    omega)
  rw [hg] at hl2
  injection hl2
end Go.Proofs.YtiminmnmeknioaaGreatDoor
/- PointOldOrNew: the walk. -/
set_option linter.unusedVariables false
namespace Go.Proofs.YtiminmnmeknioaaGreatDoor
open Go Go.RowKit

theorem rem1000 {P : Program} {w : World} {t : TypeId} (n : Int) : (binOp .rem t (.int .i64 n) (.int .i64 1000)).run P w = .ok (.int .i64 (n.tmod 1000)) w := rfl
theorem rem1000p {P : Program} {w : World} {t : TypeId} (n : Int) (h : 0 ≤ n) : (binOp .rem t (.int .i64 n) (.int .i64 1000)).run P w = .ok (.int .i64 (n % 1000)) w := by
  show Result.ok (Value.int .i64 (n.tmod 1000)) w = _
  rw [Int.tmod_eq_emod_of_nonneg h]
theorem tmod1000 (n : Int) : -1000 < n.tmod 1000 ∧ n.tmod 1000 < 1000 := ⟨Int.lt_tmod_of_pos n (by omega), Int.tmod_lt_of_pos n (by omega)⟩
def all8 (keep : List Bool) (i : Nat) : Bool := (List.range i).all fun j => keep.getD j false
theorem all8_succ (keep : List Bool) (i : Nat) : all8 keep (i + 1) = (all8 keep i && keep.getD i false) := by
  unfold all8
  rw [List.range_succ, List.all_append]
  simp
theorem all8_all {keep : List Bool} {n : Nat} (h : all8 keep n = true) (j : Nat) (hj : j < n) : keep.getD j false = true := List.all_eq_true.1 h j (List.mem_range.2 hj)
theorem PointOldOrNew_calls (w : World) (a b e : Pt) (av bv ev kv : Value) (keep : List Bool) (hxa : BA w av a.dt) (hxb : BA w bv b.dt) (hxe : BA w ev e.dt) (hla : a.dt.length ≤ 1048576) (hlb : b.dt.length ≤ 1048576) (hle : e.dt.length ≤ 1048576) (hk : TA w kv keep) (hg : ErrTy w) : Calls Tryz.prog 7 #[.agg #[vi a.ep, vi a.sq, vi a.vw, vi a.cm, av], .agg #[vi b.ep, vi b.sq, vi b.vw, vi b.cm, bv], .agg #[vi e.ep, vi e.sq, vi e.vw, vi e.cm, ev], kv] w (Ret0 w (.bool true)) := by
  have hxa0 := hxa
  have hxb0 := hxb
  have hxe0 := hxe
  have hk0 := hk
  obtain ⟨Aa, ca, rfl, -, -, -⟩ := hxa.form
  obtain ⟨Ab, cb, rfl, -, -, -⟩ := hxb.form
  obtain ⟨Ae, ce, rfl, -, -, -⟩ := hxe.form
  obtain ⟨Ak, ck, rfl, -, -, hkc⟩ := hk.form
  refine calls_of_C Tryz.func7 rfl Tryz.ntmps7 (Nat.le_of_ble_eq_true rfl) ?_
  refine C.less (L' := [(0, _), (1, _), (2, _), (3, _)]) ?_ (Sub.cons rfl (Sub.cons rfl (Sub.cons rfl (Sub.cons rfl (Sub.nil _))))) (fun w h => h)
  refine C.seq ?_
  refine C.region ?_
  first | refine J.boxc rfl rfl rfl rfl rfl rfl (fun b4 => ?_) | refine J.box rfl rfl rfl rfl rfl (fun b4 => ?_)
  first | refine J.boxc rfl rfl rfl rfl rfl rfl (fun b5 => ?_) | refine J.box rfl rfl rfl rfl rfl (fun b5 => ?_)
  first | refine J.boxc rfl rfl rfl rfl rfl rfl (fun b6 => ?_) | refine J.box rfl rfl rfl rfl rfl (fun b6 => ?_)
  refine J.asg rfl rfl rfl rfl rfl ?_
  refine J.nil ?_
  refine C.seq ?_
  refine C.seq ?_
  refine C.region ?_
  refine J.call0 rfl rfl rfl rfl rfl Tryz.call19 (fun w h => alive_calls w (h.err hg)) ?_
  refine J.not rfl rfl rfl rfl rfl ?_
  refine J.nil ?_
  refine C.cond_f rfl ?_
  refine C.skip ?_
  refine C.seq ?_
  refine C.region ?_
  refine J.fld (k := 0) rfl rfl rfl rfl rfl Tryz.runUnderlying24 rfl rfl Tryz.sizeOf3 ?_
  refine J.ldo 2 rfl rfl rfl rfl rfl Tryz.isAgg3 rfl rfl ?_
  refine J.bin rfl rfl rfl rfl rfl rfl (fun w => rem1000 _) ?_
  have hz1 := tmod1000 a.ep
  obtain ⟨z, hz⟩ : ∃ z, a.ep.tmod 1000 = z := ⟨_, rfl⟩
  rw [hz] at hz1 ⊢
  refine J.bin rfl rfl rfl rfl rfl rfl (fun w => ra_add (by omega)) ?_
  refine J.bin rfl rfl rfl rfl rfl rfl (fun w => rem1000p _ (by omega)) ?_
  obtain ⟨m, hm⟩ : ∃ m : Nat, (z + 1000) % 1000 = (m : Int) := ⟨((z + 1000) % 1000).toNat, by omega⟩
  have hm2 : m < 1000 := by omega
  rw [hm]
  refine J.bin rfl rfl rfl rfl rfl rfl (fun w => ra_add (by omega)) ?_
  refine J.fld (k := 0) rfl rfl rfl rfl rfl Tryz.runUnderlying24 rfl rfl Tryz.sizeOf3 ?_
  refine J.st1 2 rfl rfl rfl rfl rfl rfl Tryz.sizeOf3 (by first | rfl | assumption | simp [Value.cells, Value.oneCell']) rfl rfl rfl ?_
  refine J.nil ?_
  refine C.seq ?_
  obtain ⟨A, hA⟩ : ∃ A, m + 2 = A := ⟨_, rfl⟩
  rw [show (2 : Int) + (m : Int) = (A : Int) by omega]
  refine C.regionD (fun w' => St No w [blk b4 #[vi (A : Int), vi a.sq, vi a.vw, vi a.cm, .slice Aa a.dt.length ca] 24] w') 9 (by kernel_rfl) ?_
  refine JD.take 0 rfl rfl rfl rfl (by kernel_rfl) (fun w h => ((h.pick 2 rfl))) (R.fld (k := 0) rfl rfl Tryz.runUnderlying24 rfl rfl Tryz.sizeOf3) ?_
  refine JD.take 1 rfl rfl rfl rfl (by kernel_rfl) (fun w h => ((h.pick 2 rfl))) (R.ld rfl rfl Tryz.isAgg3 (fun w h => cellL h 0 rfl rfl)) ?_
  refine JD.take 2 rfl rfl rfl rfl (by kernel_rfl) (fun w h => ((h.pick 2 rfl))) (R.bin rfl rfl rfl (fun w => ra_sub (by omega))) ?_
  refine JD.take 3 rfl rfl rfl rfl (by kernel_rfl) (fun w h => ((h.pick 2 rfl))) (R.fld (k := 0) rfl rfl Tryz.runUnderlying24 rfl rfl Tryz.sizeOf3) ?_
  refine JD.take 4 rfl rfl rfl rfl (by kernel_rfl) (fun w h => ((h.pick 2 rfl))) (R.ld rfl rfl Tryz.isAgg3 (fun w h => cellL h 0 rfl rfl)) ?_
  refine JD.take 5 rfl rfl rfl rfl (by kernel_rfl) (fun w h => ((h.pick 2 rfl))) (R.bin rfl rfl rfl (fun w => ra_add (by omega))) ?_
  refine JD.take 6 rfl rfl rfl rfl (by kernel_rfl) (fun w h => ((h.pick 2 rfl))) (R.fld (k := 0) rfl rfl Tryz.runUnderlying24 rfl rfl Tryz.sizeOf3) ?_
  refine JD.step 7 rfl (by kernel_rfl) ?_
  refine J.st1 0 rfl rfl rfl rfl rfl rfl Tryz.sizeOf3 (by first | rfl | assumption | simp [Value.cells, Value.oneCell']) rfl rfl rfl ?_
  refine J.nil ⟨(fun _ w h => ((h.pick 2 rfl))), ?_⟩
  refine JD.take 8 rfl rfl rfl rfl (by kernel_rfl) (fun w h => ((h.pick 2 rfl))) (R.fld (k := 0) rfl rfl Tryz.runUnderlying24 rfl rfl Tryz.sizeOf3) ?_
  refine JD.step 9 rfl (by kernel_rfl) ?_
  refine J.st1 1 rfl rfl rfl rfl rfl rfl Tryz.sizeOf3 (by first | rfl | assumption | simp [Value.cells, Value.oneCell']) rfl rfl rfl ?_
  refine J.nil ⟨(fun h => by cases h), ?_⟩
  refine JD.done (by kernel_rfl) ?_
  refine C.seq ?_
  refine C.seq ?_
  refine C.region ?_
  refine J.ldw 2 rfl rfl rfl rfl rfl Tryz.isAgg24 rfl Tryz.sizeOf24 ?_
  obtain ⟨a', ha'⟩ : ∃ a' : Pt, a' = ⟨(A : Int), a.sq, a.vw, a.cm, a.dt⟩ := ⟨_, rfl⟩
  obtain ⟨b', hb'⟩ : ∃ b' : Pt, b' = ⟨(A : Int) + 1, b.sq, b.vw, b.cm, b.dt⟩ := ⟨_, rfl⟩
  obtain ⟨e', he'⟩ : ∃ e' : Pt, e' = ⟨(A : Int) - 1, e.sq, e.vw, e.cm, e.dt⟩ := ⟨_, rfl⟩
  refine J.call0 rfl rfl rfl rfl rfl Tryz.call18 (fun w h => rCheck_pt_calls w ⟨(A : Int), a.sq, a.vw, a.cm, a.dt⟩ Aa ca (by dsimp only; omega)) ?_
  refine J.bin rfl rfl rfl rfl rfl rfl (fun w => rfl) ?_
  refine J.move rfl rfl rfl rfl rfl ?_
  rw [← ha']
  rcases Decidable.em (ptErr a' = 0) with h1 | h1
  · rw [show (ptErr a' != 0) = false by simpa using h1]
    refine J.want rfl rfl rfl rfl ?_
    refine J.ldw 1 rfl rfl rfl rfl rfl Tryz.isAgg24 rfl Tryz.sizeOf24 ?_
    refine J.want rfl rfl rfl rfl ?_
    refine J.call0 rfl rfl rfl rfl rfl Tryz.call18 (fun w h => rCheck_pt_calls w ⟨(A : Int) + 1, b.sq, b.vw, b.cm, b.dt⟩ Ab cb (by dsimp only; omega)) ?_
    rw [← hb']
    refine J.want rfl rfl rfl rfl ?_
    refine J.bin rfl rfl rfl rfl rfl rfl (fun w => rfl) ?_
    refine J.pick rfl rfl rfl rfl rfl rfl ?_
    refine J.move rfl rfl rfl rfl rfl ?_
    rcases Decidable.em (ptErr b' = 0) with h2 | h2
    · rw [show (ptErr b' != 0) = false by simpa using h2]
      refine J.want rfl rfl rfl rfl ?_
      refine J.ldw 0 rfl rfl rfl rfl rfl Tryz.isAgg24 rfl Tryz.sizeOf24 ?_
      refine J.want rfl rfl rfl rfl ?_
      refine J.call0 rfl rfl rfl rfl rfl Tryz.call18 (fun w h => rCheck_pt_calls w ⟨(A : Int) - 1, e.sq, e.vw, e.cm, e.dt⟩ Ae ce (by dsimp only; omega)) ?_
      rw [← he']
      refine J.want rfl rfl rfl rfl ?_
      refine J.bin rfl rfl rfl rfl rfl rfl (fun w => rfl) ?_
      refine J.pick rfl rfl rfl rfl rfl rfl ?_
      refine J.nil ?_
      rcases Decidable.em (ptErr e' = 0) with h3 | h3
      · rw [show (ptErr e' != 0) = false by simpa using h3]
        obtain ⟨d1, c1, s1⟩ : ∃ d1 c1, ptStore dkZ e' = (d1, c1) := ⟨_, _, rfl⟩
        obtain ⟨d2, c2, s2⟩ : ∃ d2 c2, ptStore d1 a' = (d2, c2) := ⟨_, _, rfl⟩
        obtain ⟨d3, c3, s3⟩ : ∃ d3 c3, dkPutAll d2 (8 * (b'.ep % 2)) (ptReg b') = (d3, c3) := ⟨_, _, rfl⟩
        obtain ⟨d4, c4, s4⟩ : ∃ d4 c4, dkLand (fun i => keep.getD i false) d3 = (d4, c4) := ⟨_, _, rfl⟩
        obtain ⟨rfl, rfl, rfl, rfl, g, s5, hall⟩ := oldNew (fun i => keep.getD i false) h3 h1 h2 (A := A) (by omega) (by rw [ha']) (by rw [he']; dsimp only; omega) (by rw [hb']; dsimp only; omega) s1 s2 s3 s4
        have s6 : ptEnc b' = (ptReg b', 0) := by unfold ptEnc; rw [if_pos h2]
        have hreg := ptReg_len h2
        have s1' := s1
        rw [he'] at s1'
        have s2' := s2
        rw [ha'] at s2'
        have s6' := s6
        rw [show ptEnc b' = ptEnc ⟨(A : Int) + 1, b.sq, b.vw, b.cm, b.dt⟩ by rw [hb']] at s6'
        have s3' : dkPutAll d2 (8 * (((A : Int) + 1) % 2)) (ptReg b') = (d3, 0) := by rw [show (A : Int) + 1 = b'.ep by rw [hb']]; exact s3
        refine C.cond_f rfl ?_
        refine C.skip ?_
        refine C.seq ?_
        refine C.region ?_
        refine J.callrl rfl rfl rfl rfl rfl Tryz.call26 (fun w h => by have := New_calls w 16; rw [new16] at this; exact this)  ?_
        rintro v58 R58 ⟨A1, k1, A2, k2, vs, fp, rfl, rfl⟩
        refine J.move rfl rfl rfl rfl rfl ?_
        refine J.ext rfl rfl rfl rfl rfl rfl ?_
        refine J.ext rfl rfl rfl rfl rfl rfl ?_
        refine J.allocc rfl rfl rfl rfl Tryz.zeroValue50 rfl (fun b9 => ?_)
        first | refine J.stwc 0 rfl rfl rfl rfl rfl rfl Tryz.sizeOf50 (by first | rfl | assumption | simp [Value.cells, Value.oneCell']) rfl rfl ?_ | refine J.stw 0 rfl rfl rfl rfl rfl rfl Tryz.sizeOf50 (by first | rfl | assumption | simp [Value.cells, Value.oneCell']) rfl rfl ?_
        refine J.asg rfl rfl rfl rfl rfl ?_
        refine J.nil ?_
        refine C.seq ?_
        refine C.mono (nK' := fun ds' L' M' => ds' = [] ∧ ∃ A3 c3 A4 c4 vs2 fp2, Sub [(3, .slice Ak keep.length ck), (4, .pointer (some ⟨b4, 0, none⟩)), (5, .pointer (some ⟨b5, 0, none⟩)), (6, .pointer (some ⟨b6, 0, none⟩)), (9, .pointer (some ⟨b9, 0, none⟩)), (10, vi 0), (11, vi 0)] L' ∧ ∀ w', St No w M' w' → St No w [blk b9 #[.slice A3 d1.secs.length c3, .slice A4 d1.cache.length c4] 50, rowR 22 1 (.slice A3 d1.secs.length c3) d1.secs.length vs2, gR 5 vs2 d1.secs, rwsR fp2 (.slice A4 d1.cache.length c4) d1.cache, blk b6 #[vi ((A : Int) - 1), vi e.sq, vi e.vw, vi e.cm, .slice Ae e.dt.length ce] 24, blk b5 #[vi ((A : Int) + 1), vi b.sq, vi b.vw, vi b.cm, .slice Ab b.dt.length cb] 24, blk b4 #[vi (A : Int), vi a.sq, vi a.vw, vi a.cm, .slice Aa a.dt.length ca] 24] w') ?_ ?_
        · refine C.regionD (fun w' => St No w [blk b6 #[vi ((A : Int) - 1), vi e.sq, vi e.vw, vi e.cm, .slice Ae e.dt.length ce] 24] w') 9 (by kernel_rfl) ?_
          refine JD.take 1 rfl rfl rfl rfl (by kernel_rfl) (fun w h => ((by first | exact h.pick 4 rfl | exact h.pick 5 rfl | exact h.pick 8 rfl))) (R.ldw 0 rfl rfl Tryz.isAgg24 rfl Tryz.sizeOf24) ?_
          refine JD.both 0 2 rfl rfl (by kernel_rfl) ?_ ?_
          · refine J.ldw 0 rfl rfl rfl rfl rfl Tryz.isAgg50 rfl Tryz.sizeOf50 ?_
            refine J.nil ⟨(fun _ w h => ((by first | exact h.pick 4 rfl | exact h.pick 5 rfl | exact h.pick 8 rfl))), ?_⟩
            refine JD.step 2 rfl (by kernel_rfl) ?_
            refine J.callr rfl rfl rfl rfl rfl Tryz.call8 (fun w h => of_pt_calls w ⟨(A : Int) - 1, e.sq, e.vw, e.cm, e.dt⟩ _ (h.ba hxe0) (by dsimp only; omega))  ?_
            rintro v64 r64 ⟨Ax, kx, rfl, rfl⟩
            refine J.nil ⟨(fun _ w h => ((by first | exact h.pick 4 rfl | exact h.pick 5 rfl | exact h.pick 8 rfl))), ?_⟩
            refine JD.step 3 rfl (by kernel_rfl) ?_
            refine J.callrl rfl rfl rfl rfl rfl Tryz.call21 (fun w h => by have := Store_calls w dkZ ⟨(A : Int) - 1, e.sq, e.vw, e.cm, e.dt⟩ _ _ _ ((h.ord [2, 3] (by decide)).bsa_own) (h.rws 4 rfl) (h.rowBA 0 rfl rfl) (by dsimp only; omega); rw [s1'] at this; exact this)  ?_
            rintro v65 R65 ⟨A3, k3, A4, k4, vs2, fp2, rfl, rfl⟩
            refine J.nil ⟨(fun _ w h => ((by first | exact h.pick 4 rfl | exact h.pick 5 rfl | exact h.pick 8 rfl))), ?_⟩
            refine JD.take 4 rfl rfl rfl rfl (by kernel_rfl) (fun w h => ((by first | exact h.pick 4 rfl | exact h.pick 5 rfl | exact h.pick 8 rfl))) (R.move rfl rfl) ?_
            refine JD.take 5 rfl rfl rfl rfl (by kernel_rfl) (fun w h => ((by first | exact h.pick 4 rfl | exact h.pick 5 rfl | exact h.pick 8 rfl))) (R.ext rfl rfl rfl) ?_
            refine JD.take 6 rfl rfl rfl rfl (by kernel_rfl) (fun w h => ((by first | exact h.pick 4 rfl | exact h.pick 5 rfl | exact h.pick 8 rfl))) (R.ext rfl rfl rfl) ?_
            refine JD.step 7 rfl (by kernel_rfl) ?_
            first | refine J.stwc 4 rfl rfl rfl rfl rfl rfl Tryz.sizeOf50 (by first | rfl | assumption | simp [Value.cells, Value.oneCell']) rfl rfl ?_ | refine J.stw 4 rfl rfl rfl rfl rfl rfl Tryz.sizeOf50 (by first | rfl | assumption | simp [Value.cells, Value.oneCell']) rfl rfl ?_
            refine J.nil ⟨(fun _ w h => ((by first | exact h.pick 4 rfl | exact h.pick 5 rfl | exact h.pick 8 rfl))), ?_⟩
            refine JD.take 8 rfl rfl rfl rfl (by kernel_rfl) (fun w h => ((by first | exact h.pick 4 rfl | exact h.pick 5 rfl | exact h.pick 8 rfl))) (R.asg rfl rfl) ?_
            refine JD.done (by kernel_rfl) ?_
            exact ⟨rfl, A3, k3, A4, k4, vs2, fp2, (Sub.cons rfl (Sub.cons rfl (Sub.cons rfl (Sub.cons rfl (Sub.cons rfl (Sub.cons rfl (Sub.cons rfl (Sub.nil _)))))))), fun w h => h.ord [4, 0, 1, 2, 8, 9, 10] (by decide)⟩
          · refine J.callr rfl rfl rfl rfl rfl Tryz.call8 (fun w h => of_pt_calls w ⟨(A : Int) - 1, e.sq, e.vw, e.cm, e.dt⟩ _ (h.ba hxe0) (by dsimp only; omega))  ?_
            rintro v64 r64 ⟨Ax, kx, rfl, rfl⟩
            refine J.nil ⟨(fun _ w h => ((by first | exact h.pick 4 rfl | exact h.pick 5 rfl | exact h.pick 8 rfl))), ?_⟩
            refine JD.step 0 rfl (by kernel_rfl) ?_
            refine J.ldw 1 rfl rfl rfl rfl rfl Tryz.isAgg50 rfl Tryz.sizeOf50 ?_
            refine J.nil ⟨(fun _ w h => ((by first | exact h.pick 4 rfl | exact h.pick 5 rfl | exact h.pick 8 rfl))), ?_⟩
            refine JD.step 3 rfl (by kernel_rfl) ?_
            refine J.callrl rfl rfl rfl rfl rfl Tryz.call21 (fun w h => by have := Store_calls w dkZ ⟨(A : Int) - 1, e.sq, e.vw, e.cm, e.dt⟩ _ _ _ ((h.ord [2, 3] (by decide)).bsa_own) (h.rws 4 rfl) (h.rowBA 0 rfl rfl) (by dsimp only; omega); rw [s1'] at this; exact this)  ?_
            rintro v65 R65 ⟨A3, k3, A4, k4, vs2, fp2, rfl, rfl⟩
            refine J.nil ⟨(fun _ w h => ((by first | exact h.pick 4 rfl | exact h.pick 5 rfl | exact h.pick 8 rfl))), ?_⟩
            refine JD.take 4 rfl rfl rfl rfl (by kernel_rfl) (fun w h => ((by first | exact h.pick 4 rfl | exact h.pick 5 rfl | exact h.pick 8 rfl))) (R.move rfl rfl) ?_
            refine JD.take 5 rfl rfl rfl rfl (by kernel_rfl) (fun w h => ((by first | exact h.pick 4 rfl | exact h.pick 5 rfl | exact h.pick 8 rfl))) (R.ext rfl rfl rfl) ?_
            refine JD.take 6 rfl rfl rfl rfl (by kernel_rfl) (fun w h => ((by first | exact h.pick 4 rfl | exact h.pick 5 rfl | exact h.pick 8 rfl))) (R.ext rfl rfl rfl) ?_
            refine JD.step 7 rfl (by kernel_rfl) ?_
            first | refine J.stwc 4 rfl rfl rfl rfl rfl rfl Tryz.sizeOf50 (by first | rfl | assumption | simp [Value.cells, Value.oneCell']) rfl rfl ?_ | refine J.stw 4 rfl rfl rfl rfl rfl rfl Tryz.sizeOf50 (by first | rfl | assumption | simp [Value.cells, Value.oneCell']) rfl rfl ?_
            refine J.nil ⟨(fun _ w h => ((by first | exact h.pick 4 rfl | exact h.pick 5 rfl | exact h.pick 8 rfl))), ?_⟩
            refine JD.take 8 rfl rfl rfl rfl (by kernel_rfl) (fun w h => ((by first | exact h.pick 4 rfl | exact h.pick 5 rfl | exact h.pick 8 rfl))) (R.asg rfl rfl) ?_
            refine JD.done (by kernel_rfl) ?_
            exact ⟨rfl, A3, k3, A4, k4, vs2, fp2, (Sub.cons rfl (Sub.cons rfl (Sub.cons rfl (Sub.cons rfl (Sub.cons rfl (Sub.cons rfl (Sub.cons rfl (Sub.nil _)))))))), fun w h => h.ord [4, 0, 1, 2, 8, 9, 10] (by decide)⟩
        · rintro _ L' M' ⟨rfl, A3, k3, A4, k4, vs2, fp2, hsub, hM⟩
          refine C.less ?_ hsub hM
          refine C.seq ?_
          refine C.mono (nK' := fun ds' L' M' => ds' = [] ∧ ∃ A3 c3 A4 c4 vs2 fp2, Sub [(3, .slice Ak keep.length ck), (4, .pointer (some ⟨b4, 0, none⟩)), (5, .pointer (some ⟨b5, 0, none⟩)), (6, .pointer (some ⟨b6, 0, none⟩)), (9, .pointer (some ⟨b9, 0, none⟩)), (10, vi 0), (11, vi 0), (12, vi 0)] L' ∧ ∀ w', St No w M' w' → St No w [blk b9 #[.slice A3 d2.secs.length c3, .slice A4 d2.cache.length c4] 50, rowR 22 1 (.slice A3 d2.secs.length c3) d2.secs.length vs2, gR 5 vs2 d2.secs, rwsR fp2 (.slice A4 d2.cache.length c4) d2.cache, blk b6 #[vi ((A : Int) - 1), vi e.sq, vi e.vw, vi e.cm, .slice Ae e.dt.length ce] 24, blk b5 #[vi ((A : Int) + 1), vi b.sq, vi b.vw, vi b.cm, .slice Ab b.dt.length cb] 24, blk b4 #[vi (A : Int), vi a.sq, vi a.vw, vi a.cm, .slice Aa a.dt.length ca] 24] w') ?_ ?_
          · refine C.regionD (fun w' => St No w [blk b4 #[vi (A : Int), vi a.sq, vi a.vw, vi a.cm, .slice Aa a.dt.length ca] 24] w') 9 (by kernel_rfl) ?_
            refine JD.take 1 rfl rfl rfl rfl (by kernel_rfl) (fun w h => ((by first | exact h.pick 6 rfl | exact h.pick 7 rfl | exact h.pick 10 rfl))) (R.ldw 0 rfl rfl Tryz.isAgg24 rfl Tryz.sizeOf24) ?_
            refine JD.both 0 2 rfl rfl (by kernel_rfl) ?_ ?_
            · refine J.ldw 0 rfl rfl rfl rfl rfl Tryz.isAgg50 rfl Tryz.sizeOf50 ?_
              refine J.nil ⟨(fun _ w h => ((by first | exact h.pick 6 rfl | exact h.pick 7 rfl | exact h.pick 10 rfl))), ?_⟩
              refine JD.step 2 rfl (by kernel_rfl) ?_
              refine J.callr rfl rfl rfl rfl rfl Tryz.call8 (fun w h => of_pt_calls w ⟨(A : Int), a.sq, a.vw, a.cm, a.dt⟩ _ (h.ba hxa0) (by dsimp only; omega))  ?_
              rintro v71 r71 ⟨Ax, kx, rfl, rfl⟩
              refine J.nil ⟨(fun _ w h => ((by first | exact h.pick 6 rfl | exact h.pick 7 rfl | exact h.pick 10 rfl))), ?_⟩
              refine JD.step 3 rfl (by kernel_rfl) ?_
              refine J.callrl rfl rfl rfl rfl rfl Tryz.call21 (fun w h => by have := Store_calls w d1 ⟨(A : Int), a.sq, a.vw, a.cm, a.dt⟩ _ _ _ ((h.ord [2, 3] (by decide)).bsa_own) (h.rws 4 rfl) (h.rowBA 0 rfl rfl) (by dsimp only; omega); rw [s2'] at this; exact this)  ?_
              rintro v72 R72 ⟨A5, k5, A6, k6, vs3, fp3, rfl, rfl⟩
              refine J.nil ⟨(fun _ w h => ((by first | exact h.pick 6 rfl | exact h.pick 7 rfl | exact h.pick 10 rfl))), ?_⟩
              refine JD.take 4 rfl rfl rfl rfl (by kernel_rfl) (fun w h => ((by first | exact h.pick 6 rfl | exact h.pick 7 rfl | exact h.pick 10 rfl))) (R.move rfl rfl) ?_
              refine JD.take 5 rfl rfl rfl rfl (by kernel_rfl) (fun w h => ((by first | exact h.pick 6 rfl | exact h.pick 7 rfl | exact h.pick 10 rfl))) (R.ext rfl rfl rfl) ?_
              refine JD.take 6 rfl rfl rfl rfl (by kernel_rfl) (fun w h => ((by first | exact h.pick 6 rfl | exact h.pick 7 rfl | exact h.pick 10 rfl))) (R.ext rfl rfl rfl) ?_
              refine JD.step 7 rfl (by kernel_rfl) ?_
              first | refine J.stwc 4 rfl rfl rfl rfl rfl rfl Tryz.sizeOf50 (by first | rfl | assumption | simp [Value.cells, Value.oneCell']) rfl rfl ?_ | refine J.stw 4 rfl rfl rfl rfl rfl rfl Tryz.sizeOf50 (by first | rfl | assumption | simp [Value.cells, Value.oneCell']) rfl rfl ?_
              refine J.nil ⟨(fun _ w h => ((by first | exact h.pick 6 rfl | exact h.pick 7 rfl | exact h.pick 10 rfl))), ?_⟩
              refine JD.take 8 rfl rfl rfl rfl (by kernel_rfl) (fun w h => ((by first | exact h.pick 6 rfl | exact h.pick 7 rfl | exact h.pick 10 rfl))) (R.asg rfl rfl) ?_
              refine JD.done (by kernel_rfl) ?_
              exact ⟨rfl, A5, k5, A6, k6, vs3, fp3, (Sub.cons rfl (Sub.cons rfl (Sub.cons rfl (Sub.cons rfl (Sub.cons rfl (Sub.cons rfl (Sub.cons rfl (Sub.cons rfl (Sub.nil _))))))))), fun w h => h.ord [4, 0, 1, 2, 8, 9, 10] (by decide)⟩
            · refine J.callr rfl rfl rfl rfl rfl Tryz.call8 (fun w h => of_pt_calls w ⟨(A : Int), a.sq, a.vw, a.cm, a.dt⟩ _ (h.ba hxa0) (by dsimp only; omega))  ?_
              rintro v71 r71 ⟨Ax, kx, rfl, rfl⟩
              refine J.nil ⟨(fun _ w h => ((by first | exact h.pick 6 rfl | exact h.pick 7 rfl | exact h.pick 10 rfl))), ?_⟩
              refine JD.step 0 rfl (by kernel_rfl) ?_
              refine J.ldw 1 rfl rfl rfl rfl rfl Tryz.isAgg50 rfl Tryz.sizeOf50 ?_
              refine J.nil ⟨(fun _ w h => ((by first | exact h.pick 6 rfl | exact h.pick 7 rfl | exact h.pick 10 rfl))), ?_⟩
              refine JD.step 3 rfl (by kernel_rfl) ?_
              refine J.callrl rfl rfl rfl rfl rfl Tryz.call21 (fun w h => by have := Store_calls w d1 ⟨(A : Int), a.sq, a.vw, a.cm, a.dt⟩ _ _ _ ((h.ord [2, 3] (by decide)).bsa_own) (h.rws 4 rfl) (h.rowBA 0 rfl rfl) (by dsimp only; omega); rw [s2'] at this; exact this)  ?_
              rintro v72 R72 ⟨A5, k5, A6, k6, vs3, fp3, rfl, rfl⟩
              refine J.nil ⟨(fun _ w h => ((by first | exact h.pick 6 rfl | exact h.pick 7 rfl | exact h.pick 10 rfl))), ?_⟩
              refine JD.take 4 rfl rfl rfl rfl (by kernel_rfl) (fun w h => ((by first | exact h.pick 6 rfl | exact h.pick 7 rfl | exact h.pick 10 rfl))) (R.move rfl rfl) ?_
              refine JD.take 5 rfl rfl rfl rfl (by kernel_rfl) (fun w h => ((by first | exact h.pick 6 rfl | exact h.pick 7 rfl | exact h.pick 10 rfl))) (R.ext rfl rfl rfl) ?_
              refine JD.take 6 rfl rfl rfl rfl (by kernel_rfl) (fun w h => ((by first | exact h.pick 6 rfl | exact h.pick 7 rfl | exact h.pick 10 rfl))) (R.ext rfl rfl rfl) ?_
              refine JD.step 7 rfl (by kernel_rfl) ?_
              first | refine J.stwc 4 rfl rfl rfl rfl rfl rfl Tryz.sizeOf50 (by first | rfl | assumption | simp [Value.cells, Value.oneCell']) rfl rfl ?_ | refine J.stw 4 rfl rfl rfl rfl rfl rfl Tryz.sizeOf50 (by first | rfl | assumption | simp [Value.cells, Value.oneCell']) rfl rfl ?_
              refine J.nil ⟨(fun _ w h => ((by first | exact h.pick 6 rfl | exact h.pick 7 rfl | exact h.pick 10 rfl))), ?_⟩
              refine JD.take 8 rfl rfl rfl rfl (by kernel_rfl) (fun w h => ((by first | exact h.pick 6 rfl | exact h.pick 7 rfl | exact h.pick 10 rfl))) (R.asg rfl rfl) ?_
              refine JD.done (by kernel_rfl) ?_
              exact ⟨rfl, A5, k5, A6, k6, vs3, fp3, (Sub.cons rfl (Sub.cons rfl (Sub.cons rfl (Sub.cons rfl (Sub.cons rfl (Sub.cons rfl (Sub.cons rfl (Sub.cons rfl (Sub.nil _))))))))), fun w h => h.ord [4, 0, 1, 2, 8, 9, 10] (by decide)⟩
          · rintro _ L' M' ⟨rfl, A5, k5, A6, k6, vs3, fp3, hsub, hM⟩
            refine C.less ?_ hsub hM
            refine C.seq ?_
            refine C.region ?_
            refine J.ldw 5 rfl rfl rfl rfl rfl Tryz.isAgg24 rfl Tryz.sizeOf24 ?_
            refine J.callr rfl rfl rfl rfl rfl Tryz.call8 (fun w h => of_pt_calls w ⟨(A : Int) + 1, b.sq, b.vw, b.cm, b.dt⟩ _ (h.ba hxb0) (by dsimp only; omega))  ?_
            rintro v77 r77 ⟨Ax, kx, rfl, rfl⟩
            refine J.callr rfl rfl rfl rfl rfl Tryz.call10 (fun w h => by have := Encode_pt_calls w ⟨(A : Int) + 1, b.sq, b.vw, b.cm, b.dt⟩ _ (h.rowBA 0 rfl rfl) (by dsimp only; omega); rw [s6'] at this; exact this)  ?_
            rintro v78 r78 ⟨Ag, kg, fg, -, -, rfl, rfl⟩
            refine J.move rfl rfl rfl rfl rfl ?_
            refine J.ext rfl rfl rfl rfl rfl rfl ?_
            refine J.ext rfl rfl rfl rfl rfl rfl ?_
            refine J.asg rfl rfl rfl rfl rfl ?_
            refine J.asg rfl rfl rfl rfl rfl ?_
            refine J.nil ?_
            refine C.seq ?_
            refine C.region ?_
            refine J.ldw 2 rfl rfl rfl rfl rfl Tryz.isAgg50 rfl Tryz.sizeOf50 ?_
            refine J.fld (k := 0) rfl rfl rfl rfl rfl Tryz.runUnderlying24 rfl rfl Tryz.sizeOf3 ?_
            refine J.ldo 7 rfl rfl rfl rfl rfl Tryz.isAgg3 rfl rfl ?_
            refine J.bin rfl rfl rfl rfl rfl rfl (fun w => rem2 _ (by omega)) ?_
            refine J.bin rfl rfl rfl rfl rfl rfl (fun w => ra_mul (by omega)) ?_
            refine J.move rfl rfl rfl rfl rfl ?_
            refine J.callrl rfl rfl rfl rfl rfl Tryz.call28 (fun w h => by have := PutAll_calls w d2 _ _ _ (8 * (((A : Int) + 1) % 2)) (ptReg b') ((h.ord [3, 4] (by decide)).bsa_own) (h.rws 5 rfl) (h.rb 0 rfl) (by omega); rw [s3'] at this; exact this)  ?_
            rintro v88 R88 ⟨A7, k7, A8, k8, vs4, fp4, rfl, rfl⟩
            refine J.move rfl rfl rfl rfl rfl ?_
            refine J.ext rfl rfl rfl rfl rfl rfl ?_
            refine J.ext rfl rfl rfl rfl rfl rfl ?_
            first | refine J.stwc 5 rfl rfl rfl rfl rfl rfl Tryz.sizeOf50 (by first | rfl | assumption | simp [Value.cells, Value.oneCell']) rfl rfl ?_ | refine J.stw 5 rfl rfl rfl rfl rfl rfl Tryz.sizeOf50 (by first | rfl | assumption | simp [Value.cells, Value.oneCell']) rfl rfl ?_
            refine J.asg rfl rfl rfl rfl rfl ?_
            refine J.nil ?_
            refine C.seq ?_
            refine C.region ?_
            refine J.ldw 5 rfl rfl rfl rfl rfl Tryz.isAgg50 rfl Tryz.sizeOf50 ?_
            refine J.move rfl rfl rfl rfl rfl ?_
            refine J.callrl rfl rfl rfl rfl rfl Tryz.call29 (fun w h => by have := Crash_calls w d3 _ _ _ keep ((h.ord [0, 1] (by decide)).bsa_own) (h.rws 2 rfl) (h.ta hk0); rw [s4] at this; exact this)  ?_
            rintro v94 R94 ⟨A9, k9, A10, k10, vs5, fp5, rfl, rfl⟩
            refine J.move rfl rfl rfl rfl rfl ?_
            refine J.ext rfl rfl rfl rfl rfl rfl ?_
            refine J.ext rfl rfl rfl rfl rfl rfl ?_
            first | refine J.stwc 8 rfl rfl rfl rfl rfl rfl Tryz.sizeOf50 (by first | rfl | assumption | simp [Value.cells, Value.oneCell']) rfl rfl ?_ | refine J.stw 8 rfl rfl rfl rfl rfl rfl Tryz.sizeOf50 (by first | rfl | assumption | simp [Value.cells, Value.oneCell']) rfl rfl ?_
            refine J.asg rfl rfl rfl rfl rfl ?_
            refine J.nil ?_
            refine C.seq ?_
            refine C.region ?_
            refine J.ldw 8 rfl rfl rfl rfl rfl Tryz.isAgg50 rfl Tryz.sizeOf50 ?_
            refine J.callr rfl rfl rfl rfl rfl Tryz.call23 (fun w h => by have := Load_calls w d4 _ _ ((h.ord [0, 1] (by decide)).bsa_own) (h.rws 2 rfl) (h.err hg); rw [s5] at this; exact this)  ?_
            rintro v99 r99 ⟨Au, cu, fu, rfl, rfl⟩
            refine J.move rfl rfl rfl rfl rfl ?_
            refine J.ext rfl rfl rfl rfl rfl rfl ?_
            refine J.ext rfl rfl rfl rfl rfl rfl ?_
            refine J.allocc rfl rfl rfl rfl Tryz.zeroValue25 rfl (fun b17 => ?_)
            first | refine J.stwc 0 rfl rfl rfl rfl rfl rfl Tryz.sizeOf25 (by first | rfl | assumption | simp [Value.cells, Value.oneCell']) rfl rfl ?_ | refine J.stw 0 rfl rfl rfl rfl rfl rfl Tryz.sizeOf25 (by first | rfl | assumption | simp [Value.cells, Value.oneCell']) rfl rfl ?_
            refine J.asg rfl rfl rfl rfl rfl ?_
            refine J.nil ?_
            refine C.seq ?_
            refine C.seq ?_
            refine C.region ?_
            refine J.move rfl rfl rfl rfl rfl ?_
            refine J.call0 rfl rfl rfl rfl rfl Tryz.call15 (fun w h => num_calls w 0) ?_
            refine J.move rfl rfl rfl rfl rfl ?_
            refine J.call0 rfl rfl rfl rfl rfl Tryz.call15 (fun w h => num_calls w 0) ?_
            refine J.bin rfl rfl rfl rfl rfl rfl (fun w => ra_add (by omega)) ?_
            refine J.move rfl rfl rfl rfl rfl ?_
            refine J.call0 rfl rfl rfl rfl rfl Tryz.call15 (fun w h => num_calls w 0) ?_
            refine J.bin rfl rfl rfl rfl rfl rfl (fun w => ra_add (by omega)) ?_
            refine J.move rfl rfl rfl rfl rfl ?_
            refine J.call0 rfl rfl rfl rfl rfl Tryz.call15 (fun w h => num_calls w 0) ?_
            refine J.bin rfl rfl rfl rfl rfl rfl (fun w => ra_add (by omega)) ?_
            refine J.move rfl rfl rfl rfl rfl ?_
            refine J.call0 rfl rfl rfl rfl rfl Tryz.call15 (fun w h => num_calls w 0) ?_
            refine J.bin rfl rfl rfl rfl rfl rfl (fun w => ra_add (by omega)) ?_
            refine J.move rfl rfl rfl rfl rfl ?_
            refine J.call0 rfl rfl rfl rfl rfl Tryz.call15 (fun w h => num_calls w 0) ?_
            refine J.bin rfl rfl rfl rfl rfl rfl (fun w => ra_add (by omega)) ?_
            refine J.move rfl rfl rfl rfl rfl ?_
            refine J.call0 rfl rfl rfl rfl rfl Tryz.call15 (fun w h => num_calls w 0) ?_
            refine J.bin rfl rfl rfl rfl rfl rfl (fun w => ra_add (by omega)) ?_
            refine J.bin rfl rfl rfl rfl rfl rfl (fun w => rfl) ?_
            refine J.nil ?_
            refine C.cond_f rfl ?_
            refine C.skip ?_
            refine C.seq ?_
            refine C.region ?_
            refine J.callrl rfl rfl rfl rfl rfl Tryz.call30 (fun w h => by have := rNew_calls w 16; rw [new16] at this; exact this)  ?_
            rintro v124 R124 ⟨A11, k11, A12, k12, fp6, fp7, rfl, rfl⟩
            refine J.move rfl rfl rfl rfl rfl ?_
            refine J.ext rfl rfl rfl rfl rfl rfl ?_
            refine J.ext rfl rfl rfl rfl rfl rfl ?_
            refine J.allocc rfl rfl rfl rfl Tryz.zeroValue47 rfl (fun b19 => ?_)
            first | refine J.stwc 0 rfl rfl rfl rfl rfl rfl Tryz.sizeOf47 (by first | rfl | assumption | simp [Value.cells, Value.oneCell']) rfl rfl ?_ | refine J.stw 0 rfl rfl rfl rfl rfl rfl Tryz.sizeOf47 (by first | rfl | assumption | simp [Value.cells, Value.oneCell']) rfl rfl ?_
            refine J.asg rfl rfl rfl rfl rfl ?_
            refine J.nil ?_
            refine C.seq ?_
            refine C.region ?_
            refine J.ldw 0 rfl rfl rfl rfl rfl Tryz.isAgg47 rfl Tryz.sizeOf47 ?_
            refine J.ldw 17 rfl rfl rfl rfl rfl Tryz.isAgg24 rfl Tryz.sizeOf24 ?_
            refine J.callrl rfl rfl rfl rfl rfl Tryz.call22 (fun w h => by have := rStore_calls w dkZ ⟨(A : Int) - 1, e.sq, e.vw, e.cm, e.dt⟩ _ _ _ (h.rbs 1 rfl) (h.rws 2 rfl) (h.ba hxe0) (by dsimp only; omega); rw [s1'] at this; exact this)  ?_
            rintro v130 R130 ⟨A13, k13, A14, k14, fp8, fp9, rfl, rfl⟩
            refine J.move rfl rfl rfl rfl rfl ?_
            refine J.ext rfl rfl rfl rfl rfl rfl ?_
            refine J.ext rfl rfl rfl rfl rfl rfl ?_
            first | refine J.stwc 2 rfl rfl rfl rfl rfl rfl Tryz.sizeOf47 (by first | rfl | assumption | simp [Value.cells, Value.oneCell']) rfl rfl ?_ | refine J.stw 2 rfl rfl rfl rfl rfl rfl Tryz.sizeOf47 (by first | rfl | assumption | simp [Value.cells, Value.oneCell']) rfl rfl ?_
            refine J.nil ?_
            refine C.seq ?_
            refine C.region ?_
            refine J.ldw 2 rfl rfl rfl rfl rfl Tryz.isAgg47 rfl Tryz.sizeOf47 ?_
            refine J.ldw 21 rfl rfl rfl rfl rfl Tryz.isAgg24 rfl Tryz.sizeOf24 ?_
            refine J.callrl rfl rfl rfl rfl rfl Tryz.call22 (fun w h => by have := rStore_calls w d1 ⟨(A : Int), a.sq, a.vw, a.cm, a.dt⟩ _ _ _ (h.rbs 0 rfl) (h.rws 1 rfl) (h.ba hxa0) (by dsimp only; omega); rw [s2'] at this; exact this)  ?_
            rintro v136 R136 ⟨A15, k15, A16, k16, fp10, fp11, rfl, rfl⟩
            refine J.move rfl rfl rfl rfl rfl ?_
            refine J.ext rfl rfl rfl rfl rfl rfl ?_
            refine J.ext rfl rfl rfl rfl rfl rfl ?_
            first | refine J.stwc 4 rfl rfl rfl rfl rfl rfl Tryz.sizeOf47 (by first | rfl | assumption | simp [Value.cells, Value.oneCell']) rfl rfl ?_ | refine J.stw 4 rfl rfl rfl rfl rfl rfl Tryz.sizeOf47 (by first | rfl | assumption | simp [Value.cells, Value.oneCell']) rfl rfl ?_
            refine J.nil ?_
            refine C.seq ?_
            refine C.region ?_
            refine J.ldw 22 rfl rfl rfl rfl rfl Tryz.isAgg24 rfl Tryz.sizeOf24 ?_
            refine J.callr rfl rfl rfl rfl rfl Tryz.call11 (fun w h => by have := rEncode_pt_calls w ⟨(A : Int) + 1, b.sq, b.vw, b.cm, b.dt⟩ _ (h.ba hxb0) (by dsimp only; omega); rw [s6'] at this; exact this)  ?_
            rintro v141 r141 ⟨Ah, kh, fh, -, -, rfl, rfl⟩
            refine J.move rfl rfl rfl rfl rfl ?_
            refine J.ext rfl rfl rfl rfl rfl rfl ?_
            refine J.ext rfl rfl rfl rfl rfl rfl ?_
            refine J.asg rfl rfl rfl rfl rfl ?_
            refine J.asg rfl rfl rfl rfl rfl ?_
            refine J.nil ?_
            refine C.seq ?_
            refine C.region ?_
            refine J.ldw 5 rfl rfl rfl rfl rfl Tryz.isAgg47 rfl Tryz.sizeOf47 ?_
            refine J.fld (k := 0) rfl rfl rfl rfl rfl Tryz.runUnderlying24 rfl rfl Tryz.sizeOf3 ?_
            refine J.ldo 23 rfl rfl rfl rfl rfl Tryz.isAgg3 rfl rfl ?_
            refine J.bin rfl rfl rfl rfl rfl rfl (fun w => rem2 _ (by omega)) ?_
            refine J.bin rfl rfl rfl rfl rfl rfl (fun w => ra_mul (by omega)) ?_
            refine J.move rfl rfl rfl rfl rfl ?_
            refine J.callrl rfl rfl rfl rfl rfl Tryz.call31 (fun w h => by have := rPutAll_calls w d2 _ _ _ (8 * (((A : Int) + 1) % 2)) (ptReg b') (h.rbs 1 rfl) (h.rws 2 rfl) (h.rb 0 rfl) (by omega); rw [s3'] at this; exact this)  ?_
            rintro v151 R151 ⟨A17, k17, A18, k18, fp12, fp13, rfl, rfl⟩
            refine J.move rfl rfl rfl rfl rfl ?_
            refine J.ext rfl rfl rfl rfl rfl rfl ?_
            refine J.ext rfl rfl rfl rfl rfl rfl ?_
            first | refine J.stwc 7 rfl rfl rfl rfl rfl rfl Tryz.sizeOf47 (by first | rfl | assumption | simp [Value.cells, Value.oneCell']) rfl rfl ?_ | refine J.stw 7 rfl rfl rfl rfl rfl rfl Tryz.sizeOf47 (by first | rfl | assumption | simp [Value.cells, Value.oneCell']) rfl rfl ?_
            refine J.nil ?_
            refine C.seq ?_
            refine C.region ?_
            refine J.ldw 7 rfl rfl rfl rfl rfl Tryz.isAgg47 rfl Tryz.sizeOf47 ?_
            refine J.move rfl rfl rfl rfl rfl ?_
            refine J.callrl rfl rfl rfl rfl rfl Tryz.call32 (fun w h => by have := rCrash_calls w d3 _ _ _ keep (h.rbs 0 rfl) (h.rws 1 rfl) (h.ta hk0); rw [s4] at this; exact this)  ?_
            rintro v157 R157 ⟨A19, k19, A20, k20, fp14, fp15, rfl, rfl⟩
            refine J.move rfl rfl rfl rfl rfl ?_
            refine J.ext rfl rfl rfl rfl rfl rfl ?_
            refine J.ext rfl rfl rfl rfl rfl rfl ?_
            first | refine J.stwc 9 rfl rfl rfl rfl rfl rfl Tryz.sizeOf47 (by first | rfl | assumption | simp [Value.cells, Value.oneCell']) rfl rfl ?_ | refine J.stw 9 rfl rfl rfl rfl rfl rfl Tryz.sizeOf47 (by first | rfl | assumption | simp [Value.cells, Value.oneCell']) rfl rfl ?_
            refine J.nil ?_
            refine C.seq ?_
            refine C.region ?_
            refine J.ldw 9 rfl rfl rfl rfl rfl Tryz.isAgg47 rfl Tryz.sizeOf47 ?_
            refine J.callr rfl rfl rfl rfl rfl Tryz.call24 (fun w h => by have := rLoad_calls w d4 _ _ (h.rbs 0 rfl) (h.rws 1 rfl); rw [s5] at this; exact this)  ?_
            rintro v162 r162 ⟨Av, cv, fv, rfl, rfl⟩
            refine J.move rfl rfl rfl rfl rfl ?_
            refine J.ext rfl rfl rfl rfl rfl rfl ?_
            refine J.ext rfl rfl rfl rfl rfl rfl ?_
            refine J.allocc rfl rfl rfl rfl Tryz.zeroValue24 rfl (fun b23 => ?_)
            first | refine J.stwc 0 rfl rfl rfl rfl rfl rfl Tryz.sizeOf24 (by first | rfl | assumption | simp [Value.cells, Value.oneCell']) rfl rfl ?_ | refine J.stw 0 rfl rfl rfl rfl rfl rfl Tryz.sizeOf24 (by first | rfl | assumption | simp [Value.cells, Value.oneCell']) rfl rfl ?_
            refine J.asg rfl rfl rfl rfl rfl ?_
            refine J.nil ?_
            refine C.seq ?_
            refine C.region ?_
            refine J.asg rfl rfl rfl rfl rfl ?_
            refine J.nil ?_
            refine C.seq ?_
            refine C.seq ?_
            refine C.region ?_
            refine J.asg rfl rfl rfl rfl rfl ?_
            refine J.nil ?_
            refine C.block ?_
            refine C.loop (σ := Nat) (fun i => i ≤ 8) (fun i => [(3, .slice Ak keep.length ck), (5, .pointer (some ⟨b5, 0, none⟩)), (17, .pointer (some ⟨b17, 0, none⟩)), (23, .pointer (some ⟨b23, 0, none⟩)), (24, vi 0), (25, .bool (all8 keep i)), (26, vi (i : Int))]) (fun i => [blk b23 #[vi g.ep, vi g.sq, vi g.vw, vi g.cm, .slice Av g.dt.length cv] 24, rbR fv (.slice Av g.dt.length cv) g.dt, blk b17 #[vi g.ep, vi g.sq, vi g.vw, vi g.cm, .slice Au g.dt.length cu] 25, rbR fu (.slice Au g.dt.length cu) g.dt, blk b5 #[vi ((A : Int) + 1), vi b.sq, vi b.vw, vi b.cm, .slice Ab b.dt.length cb] 24]) (fun i => 8 - i) 0 (Nat.zero_le _) ?_ ?_ ?_
            · exact (Sub.cons rfl (Sub.cons rfl (Sub.cons rfl (Sub.cons rfl (Sub.cons rfl (Sub.cons rfl (Sub.cons rfl (Sub.nil _))))))))
            · exact fun w h => h.ord [0, 1, 14, 15, 29] (by decide)
            intro i hi
            dsimp only at hi ⊢
            refine C.seq ?_
            refine C.seq ?_
            refine C.region ?_
            refine J.move rfl rfl rfl rfl rfl ?_
            refine J.bin rfl rfl rfl rfl rfl rfl (fun w => rfl) ?_
            refine J.nil ?_
            refine C.cond rfl (fun h8 => ?_) (fun h8 => ?_)
            · have hi8 : i < 8 := by have := of_decide_eq_true h8; omega
              refine C.skip ?_
              refine C.seq ?_
              refine C.block ?_
              refine C.region ?_
              refine J.move rfl rfl rfl rfl rfl ?_
              refine J.move rfl rfl rfl rfl rfl ?_
              rcases Bool.eq_false_or_eq_true (all8 keep i) with hal | hal
              · rw [hal]
                refine J.want rfl rfl rfl rfl ?_
                refine J.move rfl rfl rfl rfl rfl ?_
                refine J.want rfl rfl rfl rfl ?_
                refine J.move rfl rfl rfl rfl rfl ?_
                refine J.want rfl rfl rfl rfl ?_
                refine J.len rfl rfl rfl rfl rfl Tryz.runUnderlying65 ?_
                refine J.want rfl rfl rfl rfl ?_
                refine J.bin rfl rfl rfl rfl rfl rfl (fun w => rfl) ?_
                refine J.pick rfl rfl rfl rfl rfl rfl ?_
                refine J.move rfl rfl rfl rfl rfl ?_
                rcases Decidable.em ((i : Int) < (keep.length : Int)) with hik | hik
                · rw [decide_eq_true hik]
                  obtain ⟨bk, ok, rfl, -, hkx⟩ := hkc (by omega)
                  obtain ⟨x, hxi⟩ : ∃ x, keep[i]? = some x := ⟨_, List.getElem?_eq_getElem (by omega)⟩
                  refine J.want rfl rfl rfl rfl ?_
                  refine J.move rfl rfl rfl rfl rfl ?_
                  refine J.want rfl rfl rfl rfl ?_
                  refine J.move rfl rfl rfl rfl rfl ?_
                  refine J.want rfl rfl rfl rfl ?_
                  first | refine J.idx1 rfl rfl rfl rfl rfl rfl Tryz.runUnderlying65 Tryz.sizeOf4 (by omega) ?_ | refine J.idx rfl rfl rfl rfl rfl rfl Tryz.runUnderlying65 Tryz.sizeOf4 (by omega) ?_
                  refine J.want rfl rfl rfl rfl ?_
                  refine J.ld rfl rfl rfl rfl rfl Tryz.isAgg4 (fun w h => cellOld h (hkx i x hxi)) ?_
                  refine J.pick rfl rfl rfl rfl rfl rfl ?_
                  refine J.asg rfl rfl rfl rfl rfl ?_
                  refine J.nil ?_
                  refine C.region ?_
                  refine J.move rfl rfl rfl rfl rfl ?_
                  refine J.bin rfl rfl rfl rfl rfl rfl (fun w => ra_add (by omega)) ?_
                  refine J.asg rfl rfl rfl rfl rfl ?_
                  refine J.nil ?_
                  exact ⟨rfl, i + 1, by omega, by omega, by (try dsimp only); rw [all8_succ, hal, List.getD_eq_getElem?_getD, hxi]; exact (Sub.cons rfl (Sub.cons rfl (Sub.cons rfl (Sub.cons rfl (Sub.cons rfl (Sub.cons rfl (Sub.cons rfl (Sub.nil _)))))))), fun w h => h⟩
                · rw [decide_eq_false hik]
                  refine J.pass rfl rfl rfl rfl rfl (by intro h; cases h) ?_
                  refine J.pass rfl rfl rfl rfl rfl (by intro h; cases h) ?_
                  refine J.pass rfl rfl rfl rfl rfl (by intro h; cases h) ?_
                  refine J.pass rfl rfl rfl rfl rfl (by intro h; cases h) ?_
                  refine J.pick rfl rfl rfl rfl rfl rfl ?_
                  refine J.asg rfl rfl rfl rfl rfl ?_
                  refine J.nil ?_
                  refine C.region ?_
                  refine J.move rfl rfl rfl rfl rfl ?_
                  refine J.bin rfl rfl rfl rfl rfl rfl (fun w => ra_add (by omega)) ?_
                  refine J.asg rfl rfl rfl rfl rfl ?_
                  refine J.nil ?_
                  exact ⟨rfl, i + 1, by omega, by omega, by (try dsimp only); rw [all8_succ, hal, List.getD_eq_getElem?_getD, List.getElem?_eq_none (by omega)]; exact (Sub.cons rfl (Sub.cons rfl (Sub.cons rfl (Sub.cons rfl (Sub.cons rfl (Sub.cons rfl (Sub.cons rfl (Sub.nil _)))))))), fun w h => h⟩
              · rw [hal]
                refine J.pass rfl rfl rfl rfl rfl (by intro h; cases h) ?_
                refine J.pass rfl rfl rfl rfl rfl (by intro h; cases h) ?_
                refine J.pass rfl rfl rfl rfl rfl (by intro h; cases h) ?_
                refine J.pass rfl rfl rfl rfl rfl (by intro h; cases h) ?_
                refine J.pick rfl rfl rfl rfl rfl rfl ?_
                refine J.move rfl rfl rfl rfl rfl ?_
                refine J.pass rfl rfl rfl rfl rfl (by intro h; cases h) ?_
                refine J.pass rfl rfl rfl rfl rfl (by intro h; cases h) ?_
                refine J.pass rfl rfl rfl rfl rfl (by intro h; cases h) ?_
                refine J.pass rfl rfl rfl rfl rfl (by intro h; cases h) ?_
                refine J.pick rfl rfl rfl rfl rfl rfl ?_
                refine J.asg rfl rfl rfl rfl rfl ?_
                refine J.nil ?_
                refine C.region ?_
                refine J.move rfl rfl rfl rfl rfl ?_
                refine J.bin rfl rfl rfl rfl rfl rfl (fun w => ra_add (by omega)) ?_
                refine J.asg rfl rfl rfl rfl rfl ?_
                refine J.nil ?_
                exact ⟨rfl, i + 1, by omega, by omega, by (try dsimp only); rw [all8_succ, hal]; exact (Sub.cons rfl (Sub.cons rfl (Sub.cons rfl (Sub.cons rfl (Sub.cons rfl (Sub.cons rfl (Sub.cons rfl (Sub.nil _)))))))), fun w h => h⟩
            · obtain rfl : i = 8 := by have := of_decide_eq_false h8; omega
              refine C.exit rfl ?_
              refine C.seq ?_
              refine C.region ?_
              refine J.move rfl rfl rfl rfl rfl ?_
              refine J.bin rfl rfl rfl rfl rfl rfl (fun w => rfl) ?_
              refine J.move rfl rfl rfl rfl rfl ?_
              refine J.want rfl rfl rfl rfl ?_
              refine J.ldw 2 rfl rfl rfl rfl rfl Tryz.isAgg25 rfl Tryz.sizeOf25 ?_
              refine J.want rfl rfl rfl rfl ?_
              refine J.ldw 0 rfl rfl rfl rfl rfl Tryz.isAgg24 rfl Tryz.sizeOf24 ?_
              refine J.want rfl rfl rfl rfl ?_
              refine J.call0 rfl rfl rfl rfl rfl Tryz.call16 (fun w h => same_calls w g g _ _ (h.rb 3 rfl) (h.rb 1 rfl)) ?_
              refine J.pick rfl rfl rfl rfl rfl rfl ?_
              refine J.move rfl rfl rfl rfl rfl ?_
              rw [ptEq_refl]
              refine J.want rfl rfl rfl rfl ?_
              refine J.move rfl rfl rfl rfl rfl ?_
              refine J.want rfl rfl rfl rfl ?_
              refine J.not rfl rfl rfl rfl rfl ?_
              refine J.want rfl rfl rfl rfl ?_
              refine J.move rfl rfl rfl rfl rfl ?_
              rcases Bool.eq_false_or_eq_true (all8 keep 8) with hal | hal
              · rw [hal]
                refine J.want rfl rfl rfl rfl ?_
                refine J.ldw 2 rfl rfl rfl rfl rfl Tryz.isAgg25 rfl Tryz.sizeOf25 ?_
                refine J.want rfl rfl rfl rfl ?_
                refine J.ldw 4 rfl rfl rfl rfl rfl Tryz.isAgg24 rfl Tryz.sizeOf24 ?_
                refine J.want rfl rfl rfl rfl ?_
                refine J.call0 rfl rfl rfl rfl rfl Tryz.call16 (fun w h => same_calls w g ⟨(A : Int) + 1, b.sq, b.vw, b.cm, b.dt⟩ _ _ (h.rb 3 rfl) (h.ba hxb0)) ?_
                rw [show g = ⟨(A : Int) + 1, b.sq, b.vw, b.cm, b.dt⟩ from (hall (fun j hj => all8_all hal j hj)).trans hb', ptEq_refl]
                refine J.want rfl rfl rfl rfl ?_
                refine J.pick rfl rfl rfl rfl rfl rfl ?_
                refine J.pick rfl rfl rfl rfl rfl rfl ?_
                refine J.asg rfl rfl rfl rfl rfl ?_
                refine J.nil ?_
                refine C.ret ?_
                exact fin1 rfl (RV.tmp rfl) (fun w' h => h.ret0)
              · rw [hal]
                refine J.pass rfl rfl rfl rfl rfl (by intro h; cases h) ?_
                refine J.pass rfl rfl rfl rfl rfl (by intro h; cases h) ?_
                refine J.pass rfl rfl rfl rfl rfl (by intro h; cases h) ?_
                refine J.want rfl rfl rfl rfl ?_
                refine J.pick rfl rfl rfl rfl rfl rfl ?_
                refine J.pick rfl rfl rfl rfl rfl rfl ?_
                refine J.asg rfl rfl rfl rfl rfl ?_
                refine J.nil ?_
                refine C.ret ?_
                exact fin1 rfl (RV.tmp rfl) (fun w' h => h.ret0)
      · rw [show (ptErr e' != 0) = true by simpa using h3]
        refine C.cond_t rfl ?_
        refine C.seq ?_
        refine C.region ?_
        refine J.asg rfl rfl rfl rfl rfl ?_
        refine J.nil ?_
        refine C.ret ?_
        exact fin1 rfl (RV.tmp rfl) (fun w' h => h.ret0)
    · rw [show (ptErr b' != 0) = true by simpa using h2]
      refine J.pass rfl rfl rfl rfl rfl (by intro h; cases h) ?_
      refine J.pass rfl rfl rfl rfl rfl (by intro h; cases h) ?_
      refine J.pass rfl rfl rfl rfl rfl (by intro h; cases h) ?_
      refine J.pick rfl rfl rfl rfl rfl rfl ?_
      refine J.nil ?_
      refine C.cond_t rfl ?_
      refine C.seq ?_
      refine C.region ?_
      refine J.asg rfl rfl rfl rfl rfl ?_
      refine J.nil ?_
      refine C.ret ?_
      exact fin1 rfl (RV.tmp rfl) (fun w' h => h.ret0)
  · rw [show (ptErr a' != 0) = true by simpa using h1]
    refine J.pass rfl rfl rfl rfl rfl (by intro h; cases h) ?_
    refine J.pass rfl rfl rfl rfl rfl (by intro h; cases h) ?_
    refine J.pass rfl rfl rfl rfl rfl (by intro h; cases h) ?_
    refine J.pick rfl rfl rfl rfl rfl rfl ?_
    refine J.move rfl rfl rfl rfl rfl ?_
    refine J.pass rfl rfl rfl rfl rfl (by intro h; cases h) ?_
    refine J.pass rfl rfl rfl rfl rfl (by intro h; cases h) ?_
    refine J.pass rfl rfl rfl rfl rfl (by intro h; cases h) ?_
    refine J.pick rfl rfl rfl rfl rfl rfl ?_
    refine J.nil ?_
    refine C.cond_t rfl ?_
    refine C.seq ?_
    refine C.region ?_
    refine J.asg rfl rfl rfl rfl rfl ?_
    refine J.nil ?_
    refine C.ret ?_
    exact fin1 rfl (RV.tmp rfl) (fun w' h => h.ret0)
end Go.Proofs.YtiminmnmeknioaaGreatDoor

