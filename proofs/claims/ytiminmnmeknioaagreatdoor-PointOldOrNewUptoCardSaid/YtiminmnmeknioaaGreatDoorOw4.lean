/- State.clone: the walk. -/
import Derived.Test.YtiminmnmeknioaaGreatDoorOw3
set_option linter.unusedVariables false
namespace Go.Proofs.YtiminmnmeknioaaGreatDoor
open Go Go.RowKit

theorem clone_calls (w : World) (d : Dk) (sv cv : Value) (hs : BSA w sv d.secs) (hc : WSA w cv d.cache) (hok : dkBad d = false) : Calls Tryz.prog 87 #[.agg #[sv, cv]] w (RetL No w (PCl d)) := by
  obtain ⟨⟨hs1, hs2⟩, hc1, hsl, hcl⟩ := dkOk hok
  obtain ⟨A, c, vs, rfl, h1, h2, hvl, hvb, hvc⟩ := hs.vals
  obtain ⟨A2, c2, us, rfl, k1, k2, hul, hub, huc⟩ := hc.vals
  have hvf : ∀ u ∈ vs, u.oneCell' = true := fun u hu => by
    obtain ⟨j, hj, rfl⟩ := List.mem_iff_getElem.1 hu
    obtain ⟨_, _, e, _⟩ := (hvb j vs[j] (d.secs[j]'(by omega)) (by simp) (by simp)).form
    rw [e]; rfl
  have huf : ∀ u ∈ us, u.oneCell' = true := fun u hu => by
    obtain ⟨j, hj, rfl⟩ := List.mem_iff_getElem.1 hu
    obtain ⟨_, _, e, _⟩ := (hub j us[j] (d.cache[j]'(by omega)) (by simp) (by simp)).form
    rw [e]; rfl
  have hv1 : vs.all (·.oneCell') = true := List.all_eq_true.2 hvf
  have hu1 : (wcells d.cache us).all (·.oneCell') = true := wcells_one huf
  have hvn : A = none → d.secs.length = 0 := fun e => by
    rcases Nat.eq_zero_or_pos d.secs.length with h0 | h0
    · exact h0
    · obtain ⟨b, o, e2, _⟩ := hvc h0
      rw [e] at e2; cases e2
  have hun : A2 = none → d.cache.length = 0 := fun e => by
    rcases Nat.eq_zero_or_pos d.cache.length with h0 | h0
    · exact h0
    · obtain ⟨b, o, e2, _⟩ := huc h0
      rw [e] at e2; cases e2
  refine calls_of_C Tryz.func87 rfl Tryz.ntmps87 (Nat.le_of_ble_eq_true rfl) ?_
  refine C.less (L' := [(0, _)]) ?_ (Sub.cons rfl (Sub.nil _)) (fun w h => h)
  refine C.seq ?_
  refine C.region ?_
  first | refine J.boxc rfl rfl rfl rfl rfl rfl (fun b1 => ?_) | refine J.box rfl rfl rfl rfl rfl (fun b1 => ?_)
  refine J.allocc rfl rfl rfl rfl Tryz.zeroValue50 rfl (fun b2 => ?_)
  refine J.nil ?_
  refine C.seq ?_
  refine C.mono (nK' := fun ds' L' M' => ds' = [] ∧ ∃ A8 c8 A11 c11 b3, Sub [(2, .pointer (some ⟨b2, 0, none⟩)), (3, .pointer (some ⟨b3, 0, none⟩))] L' ∧ ∀ w', St No w M' w' → St No w [blk b3 #[.slice A8 d.secs.length c8, .slice A11 d.cache.length c11] 50, rowR 22 1 (.slice A8 d.secs.length c8) d.secs.length vs, rowR 90 2 (.slice A11 d.cache.length c11) d.cache.length (wcells d.cache us), blk b2 #[.slice none 0 0, .slice none 0 0] 50] w') ?_ ?_
  · refine C.regionD0 8 (by kernel_rfl) ?_
    refine JD.take 0 rfl rfl rfl rfl (by kernel_rfl) (fun w h => h) (R.fld (k := 0) rfl rfl Tryz.runUnderlying50 rfl rfl Tryz.sizeOf44) ?_
    refine JD.take 1 rfl rfl rfl rfl (by kernel_rfl) (fun w h => h) (R.ld rfl rfl Tryz.isAgg44 (fun w h => cellL h 1 rfl rfl)) ?_
    refine JD.take 3 rfl rfl rfl rfl (by kernel_rfl) (fun w h => h) (R.fld (k := 1) rfl rfl Tryz.runUnderlying50 rfl rfl Tryz.sizeOf48) ?_
    refine JD.take 4 rfl rfl rfl rfl (by kernel_rfl) (fun w h => h) (R.ld rfl rfl Tryz.isAgg48 (fun w h => cellL h 1 rfl rfl)) ?_
    refine JD.both 2 7 rfl rfl (by kernel_rfl) ?_ ?_
    · refine J.callr rfl rfl rfl rfl rfl Tryz.call107 (fun w' h => CloneS_calls w' A _ c vs hvl (by omega) hv1 hvn (fun hn => (hvc hn).elim fun b hb => hb.elim fun o ho => ⟨b, o, ho.1, Nat.lt_of_lt_of_le ho.2.1 h.frm.size, fun j u hu => cellOld h (ho.2.2 j u hu)⟩))  ?_
      rintro v8 r8 rfl
      refine J.fact (fun w h => row_form (h.get 0 rfl)) ?_
      rintro ⟨A8, c8, rfl, -, -⟩
      refine J.nil ⟨(fun _ w h => (h.sub ((List.Sublist.refl _).cons _))), ?_⟩
      refine JD.both 5 7 rfl rfl (by kernel_rfl) ?_ ?_
      · refine J.callr rfl rfl rfl rfl rfl Tryz.call108 (fun w' h => CloneW_calls w' A2 _ c2 (wcells d.cache us) (wcells_len hul) (by omega) hu1 hun (fun hn => (huc hn).elim fun b hb => hb.elim fun o ho => ⟨b, o, ho.1, Nat.lt_of_lt_of_le ho.2.1 h.frm.size, fun j u hu => cellOld h (ho.2.2 j u hu)⟩))  ?_
        rintro v11 r11 rfl
        refine J.fact (fun w h => row_form (h.get 0 rfl)) ?_
        rintro ⟨A11, c11, rfl, -, -⟩
        refine J.nil ⟨(fun _ w h => (h.sub (((List.Sublist.refl _).cons _).cons _))), ?_⟩
        refine JD.take 6 rfl rfl rfl rfl (by kernel_rfl) (fun w h => (h.sub (((List.Sublist.refl _).cons _).cons _))) (R.bld (pl := #[(0, 1), (1, 1)]) (cells := #[_, _]) rfl rfl Tryz.zeroValue50 Tryz.runUnderlying50 (fun w => by kernel_rfl) rfl) ?_
        refine JD.step 7 rfl (by kernel_rfl) ?_
        refine J.allocc rfl rfl rfl rfl Tryz.zeroValue50 rfl (fun b3 => ?_)
        refine J.nil ⟨(fun _ w h => (h.sub ((((List.Sublist.refl _).cons _).cons _).cons _))), ?_⟩
        refine JD.step 8 rfl (by kernel_rfl) ?_
        first | refine J.stwc 0 rfl rfl rfl rfl rfl rfl Tryz.sizeOf50 (by first | rfl | assumption | simp [Value.cells, Value.oneCell']) rfl rfl ?_ | refine J.stw 0 rfl rfl rfl rfl rfl rfl Tryz.sizeOf50 (by first | rfl | assumption | simp [Value.cells, Value.oneCell']) rfl rfl ?_
        refine J.nil ⟨(fun h => by cases h), ?_⟩
        refine JD.done (by kernel_rfl) ?_
        exact ⟨rfl, _, _, _, _, _, (Sub.cons rfl (Sub.cons rfl (Sub.nil _))), fun w h => h.ord [0, 2, 1, 3] (by decide)⟩
      · refine J.allocc rfl rfl rfl rfl Tryz.zeroValue50 rfl (fun b3 => ?_)
        refine J.nil ⟨(fun _ w h => (h.sub (((List.Sublist.refl _).cons _).cons _))), ?_⟩
        refine JD.step 5 rfl (by kernel_rfl) ?_
        refine J.callr rfl rfl rfl rfl rfl Tryz.call108 (fun w' h => CloneW_calls w' A2 _ c2 (wcells d.cache us) (wcells_len hul) (by omega) hu1 hun (fun hn => (huc hn).elim fun b hb => hb.elim fun o ho => ⟨b, o, ho.1, Nat.lt_of_lt_of_le ho.2.1 h.frm.size, fun j u hu => cellOld h (ho.2.2 j u hu)⟩))  ?_
        rintro v11 r11 rfl
        refine J.fact (fun w h => row_form (h.get 0 rfl)) ?_
        rintro ⟨A11, c11, rfl, -, -⟩
        refine J.nil ⟨(fun _ w h => (h.sub ((((List.Sublist.refl _).cons _).cons _).cons _))), ?_⟩
        refine JD.take 6 rfl rfl rfl rfl (by kernel_rfl) (fun w h => (h.sub ((((List.Sublist.refl _).cons _).cons _).cons _))) (R.bld (pl := #[(0, 1), (1, 1)]) (cells := #[_, _]) rfl rfl Tryz.zeroValue50 Tryz.runUnderlying50 (fun w => by kernel_rfl) rfl) ?_
        refine JD.step 8 rfl (by kernel_rfl) ?_
        first | refine J.stwc 1 rfl rfl rfl rfl rfl rfl Tryz.sizeOf50 (by first | rfl | assumption | simp [Value.cells, Value.oneCell']) rfl rfl ?_ | refine J.stw 1 rfl rfl rfl rfl rfl rfl Tryz.sizeOf50 (by first | rfl | assumption | simp [Value.cells, Value.oneCell']) rfl rfl ?_
        refine J.nil ⟨(fun h => by cases h), ?_⟩
        refine JD.done (by kernel_rfl) ?_
        exact ⟨rfl, _, _, _, _, _, (Sub.cons rfl (Sub.cons rfl (Sub.nil _))), fun w h => h.ord [1, 2, 0, 3] (by decide)⟩
    · refine J.allocc rfl rfl rfl rfl Tryz.zeroValue50 rfl (fun b3 => ?_)
      refine J.nil ⟨(fun _ w h => (h.sub ((List.Sublist.refl _).cons _))), ?_⟩
      refine JD.step 2 rfl (by kernel_rfl) ?_
      refine J.callr rfl rfl rfl rfl rfl Tryz.call107 (fun w' h => CloneS_calls w' A _ c vs hvl (by omega) hv1 hvn (fun hn => (hvc hn).elim fun b hb => hb.elim fun o ho => ⟨b, o, ho.1, Nat.lt_of_lt_of_le ho.2.1 h.frm.size, fun j u hu => cellOld h (ho.2.2 j u hu)⟩))  ?_
      rintro v8 r8 rfl
      refine J.fact (fun w h => row_form (h.get 0 rfl)) ?_
      rintro ⟨A8, c8, rfl, -, -⟩
      refine J.nil ⟨(fun _ w h => (h.sub (((List.Sublist.refl _).cons _).cons _))), ?_⟩
      refine JD.step 5 rfl (by kernel_rfl) ?_
      refine J.callr rfl rfl rfl rfl rfl Tryz.call108 (fun w' h => CloneW_calls w' A2 _ c2 (wcells d.cache us) (wcells_len hul) (by omega) hu1 hun (fun hn => (huc hn).elim fun b hb => hb.elim fun o ho => ⟨b, o, ho.1, Nat.lt_of_lt_of_le ho.2.1 h.frm.size, fun j u hu => cellOld h (ho.2.2 j u hu)⟩))  ?_
      rintro v11 r11 rfl
      refine J.fact (fun w h => row_form (h.get 0 rfl)) ?_
      rintro ⟨A11, c11, rfl, -, -⟩
      refine J.nil ⟨(fun _ w h => (h.sub ((((List.Sublist.refl _).cons _).cons _).cons _))), ?_⟩
      refine JD.take 6 rfl rfl rfl rfl (by kernel_rfl) (fun w h => (h.sub ((((List.Sublist.refl _).cons _).cons _).cons _))) (R.bld (pl := #[(0, 1), (1, 1)]) (cells := #[_, _]) rfl rfl Tryz.zeroValue50 Tryz.runUnderlying50 (fun w => by kernel_rfl) rfl) ?_
      refine JD.step 8 rfl (by kernel_rfl) ?_
      first | refine J.stwc 2 rfl rfl rfl rfl rfl rfl Tryz.sizeOf50 (by first | rfl | assumption | simp [Value.cells, Value.oneCell']) rfl rfl ?_ | refine J.stw 2 rfl rfl rfl rfl rfl rfl Tryz.sizeOf50 (by first | rfl | assumption | simp [Value.cells, Value.oneCell']) rfl rfl ?_
      refine J.nil ⟨(fun h => by cases h), ?_⟩
      refine JD.done (by kernel_rfl) ?_
      exact ⟨rfl, _, _, _, _, _, (Sub.cons rfl (Sub.cons rfl (Sub.nil _))), fun w h => h.ord [2, 1, 0, 3] (by decide)⟩
  · rintro _ L' M' ⟨rfl, A8, c8, A11, c11, b3, hsub, hM⟩
    refine C.less ?_ hsub hM
    refine C.seq ?_
    refine C.seq ?_
    refine C.region ?_
    refine J.fld (k := 0) rfl rfl rfl rfl rfl Tryz.runUnderlying50 rfl rfl Tryz.sizeOf44 ?_
    refine J.ldo 0 rfl rfl rfl rfl rfl Tryz.isAgg44 rfl rfl ?_
    refine J.len rfl rfl rfl rfl rfl Tryz.runUnderlying44 ?_
    refine J.move rfl rfl rfl rfl rfl ?_
    refine J.nil ?_
    refine C.block ?_
    refine C.loop (σ := Nat × List Value) (fun s => s.1 ≤ d.secs.length ∧ s.2.length = s.1) (fun s => [(2, .pointer (some ⟨b2, 0, none⟩)), (3, .pointer (some ⟨b3, 0, none⟩)), (15, vi (d.secs.length : Int)), (16, vi (s.1 : Int))]) (fun s => [rowR 22 1 (.slice A8 d.secs.length c8) d.secs.length (s.2 ++ vs.drop s.1), gR 5 s.2 (d.secs.take s.1), blk b3 #[.slice A8 d.secs.length c8, .slice A11 d.cache.length c11] 50, rowR 90 2 (.slice A11 d.cache.length c11) d.cache.length (wcells d.cache us), blk b2 #[.slice none 0 0, .slice none 0 0] 50]) (fun s => d.secs.length - s.1) (0, []) ⟨Nat.zero_le _, rfl⟩ ?_ ?_ ?_
    · exact (Sub.cons rfl (Sub.cons rfl (Sub.cons rfl (Sub.cons rfl (Sub.nil _)))))
    · exact fun w h => (h.gnil _).ord [2, 0, 1, 3, 4] (by decide)
    rintro ⟨i, ws⟩ ⟨hi, hws⟩
    dsimp only at hi hws ⊢
    refine C.seq ?_
    refine C.region ?_
    refine J.bin rfl rfl rfl rfl rfl rfl (fun w => rfl) ?_
    refine J.nil ?_
    refine C.seq ?_
    refine C.cond rfl (fun h => ?_) (fun h => ?_)
    · have hlt : i < d.secs.length := by have := of_decide_eq_true h; omega
      have hivs : i < vs.length := by omega
      obtain ⟨u, hu⟩ : ∃ u, vs[i]? = some u := ⟨_, List.getElem?_eq_getElem hivs⟩
      obtain ⟨x, hx⟩ : ∃ x, d.secs[i]? = some x := ⟨_, List.getElem?_eq_getElem hlt⟩
      have hx64 : x.length = 64 := hsl x (List.mem_of_getElem? hx)
      refine C.ex (fun q : Nat × Array Value => [blk q.1 q.2 22, gR 5 ws (d.secs.take i), blk b3 #[.slice A8 d.secs.length c8, .slice A11 d.cache.length c11] 50, rowR 90 2 (.slice A11 d.cache.length c11) d.cache.length (wcells d.cache us), blk b2 #[.slice none 0 0, .slice none 0 0] 50]) _ (fun w h => h.row_blk (by omega)) ?_
      rintro ⟨bv, cv⟩ ⟨rfl, hc8, hc82, hcs, hct⟩
      dsimp only at hcs hct ⊢
      rw [Nat.mul_one] at hct
      refine C.skip ?_
      refine C.seq ?_
      refine C.block ?_
      refine C.seq ?_
      refine C.region ?_
      refine J.move rfl rfl rfl rfl rfl ?_
      refine J.asg rfl rfl rfl rfl rfl ?_
      refine J.nil ?_
      refine C.regionD0 10 (by kernel_rfl) ?_
      refine JD.take 0 rfl rfl rfl rfl (by kernel_rfl) (fun w h => h) (R.fld (k := 0) rfl rfl Tryz.runUnderlying50 rfl rfl Tryz.sizeOf44) ?_
      refine JD.take 1 rfl rfl rfl rfl (by kernel_rfl) (fun w h => h) (R.ld rfl rfl Tryz.isAgg44 (fun w h => cellL h 2 rfl rfl)) ?_
      refine JD.take 2 rfl rfl rfl rfl (by kernel_rfl) (fun w h => h) (R.move rfl rfl) ?_
      refine JD.take 3 rfl rfl rfl rfl (by kernel_rfl) (fun w h => h) (R.fld (k := 0) rfl rfl Tryz.runUnderlying50 rfl rfl Tryz.sizeOf44) ?_
      refine JD.take 4 rfl rfl rfl rfl (by kernel_rfl) (fun w h => h) (R.ld rfl rfl Tryz.isAgg44 (fun w h => cellL h 2 rfl rfl)) ?_
      refine JD.take 5 rfl rfl rfl rfl (by kernel_rfl) (fun w h => h) (R.move rfl rfl) ?_
      refine JD.take 6 rfl rfl rfl rfl (by kernel_rfl) (fun w h => h) (by first | exact (R.idx1 rfl rfl rfl Tryz.runUnderlying44 Tryz.sizeOf22 (by omega)) | exact (R.idx rfl rfl rfl Tryz.runUnderlying44 Tryz.sizeOf22 (by omega))) ?_
      refine JD.take 7 rfl rfl rfl rfl (by kernel_rfl) (fun w h => h) (R.ld rfl rfl Tryz.isAgg22 (fun w h => cellO h 0 rfl (by rw [Nat.zero_add]; exact getArr hct (get_mid2 hws hu)))) ?_
      refine JD.step 8 rfl (by kernel_rfl) ?_
      refine J.callr rfl rfl rfl rfl rfl Tryz.call95 (fun w h => CloneRow_calls w u x (h.ba (hvb i u x hu hx)) (by omega))  ?_
      rintro v27 r27 rfl
      refine J.fact (fun w h => row_form (h.get 0 rfl)) ?_
      rintro ⟨A27, c27, rfl, -, -⟩
      refine J.nil ⟨(fun _ w h => (h.sub ((List.Sublist.refl _).cons _))), ?_⟩
      refine JD.take 9 rfl rfl rfl rfl (by kernel_rfl) (fun w h => (h.sub ((List.Sublist.refl _).cons _))) (by first | exact (R.idx1 rfl rfl rfl Tryz.runUnderlying44 Tryz.sizeOf22 (by omega)) | exact (R.idx rfl rfl rfl Tryz.runUnderlying44 Tryz.sizeOf22 (by omega))) ?_
      refine JD.step 10 rfl (by kernel_rfl) ?_
      refine J.st1 1 rfl rfl rfl rfl rfl rfl Tryz.sizeOf22 rfl rfl (by rw [Nat.blt_eq]; omega) rfl ?_
      refine J.nil ⟨(fun h => by cases h), ?_⟩
      refine JD.done (by kernel_rfl) ?_
      refine C.region ?_
      refine J.bin rfl rfl rfl rfl rfl rfl (fun w => ra_add (by omega)) ?_
      refine J.move rfl rfl rfl rfl rfl ?_
      refine J.nil ?_
      refine ⟨rfl, (i + 1, ws ++ [.slice A27 x.length c27]), ⟨by dsimp only; omega, by dsimp only; simp [hws]⟩, by dsimp only; omega, (Sub.cons rfl (Sub.cons rfl (Sub.cons rfl (Sub.cons rfl (Sub.nil _))))), fun w h => ?_⟩
      have g1 := (h.ord [0, 2, 1, 3, 4, 5] (by decide)).gsnoc
      rw [show d.secs.take i ++ [x] = d.secs.take (i + 1) by rw [List.take_add_one, hx]; rfl] at g1
      refine (g1.ord [1, 0, 2, 3, 4] (by decide)).blk_row2 hc8 hc82 (by simpa using hcs) ?_
      rw [Nat.mul_one, Nat.zero_add, setArr hct hlt, set_mid hws hivs]
    · have hin : i = d.secs.length := by have := of_decide_eq_false h; omega
      rw [hin, List.take_length, List.drop_of_length_le (by omega), List.append_nil]
      refine C.exit rfl ?_
      refine C.seq ?_
      refine C.seq ?_
      refine C.region ?_
      refine J.fld (k := 1) rfl rfl rfl rfl rfl Tryz.runUnderlying50 rfl rfl Tryz.sizeOf48 ?_
      refine J.ldo 2 rfl rfl rfl rfl rfl Tryz.isAgg48 rfl rfl ?_
      refine J.len rfl rfl rfl rfl rfl Tryz.runUnderlying48 ?_
      refine J.move rfl rfl rfl rfl rfl ?_
      refine J.nil ?_
      refine C.block ?_
      refine C.loop (σ := Nat × List Value × (Nat → Prop)) (fun s => s.1 ≤ d.cache.length ∧ s.2.1.length = s.1) (fun s => [(2, .pointer (some ⟨b2, 0, none⟩)), (3, .pointer (some ⟨b3, 0, none⟩)), (32, vi (d.cache.length : Int)), (33, vi (s.1 : Int))]) (fun s => [rowR 90 2 (.slice A11 d.cache.length c11) d.cache.length (wcells d.cache (s.2.1 ++ us.drop s.1)), mR s.2.2 s.2.1 ((d.cache.take s.1).map (·.2)), rowR 22 1 (.slice A8 d.secs.length c8) d.secs.length ws, gR 5 ws d.secs, blk b3 #[.slice A8 d.secs.length c8, .slice A11 d.cache.length c11] 50, blk b2 #[.slice none 0 0, .slice none 0 0] 50]) (fun s => d.cache.length - s.1) (0, [], fun _ => False) ⟨Nat.zero_le _, rfl⟩ ?_ ?_ ?_
      · exact (Sub.cons rfl (Sub.cons rfl (Sub.cons rfl (Sub.cons rfl (Sub.nil _)))))
      · exact fun w h => h.mnil.ord [4, 0, 1, 2, 3, 5] (by decide)
      rintro ⟨i, zs, fp⟩ ⟨hi, hzs⟩
      dsimp only at hi hzs ⊢
      refine C.seq ?_
      refine C.region ?_
      refine J.bin rfl rfl rfl rfl rfl rfl (fun w => rfl) ?_
      refine J.nil ?_
      refine C.seq ?_
      refine C.cond rfl (fun h => ?_) (fun h => ?_)
      · have hlt : i < d.cache.length := by have := of_decide_eq_true h; omega
        have hius : i < us.length := by omega
        obtain ⟨u, hu⟩ : ∃ u, us[i]? = some u := ⟨_, List.getElem?_eq_getElem hius⟩
        obtain ⟨x, hx⟩ : ∃ x, d.cache[i]? = some x := ⟨_, List.getElem?_eq_getElem hlt⟩
        have hx64 := hcl x (List.mem_of_getElem? hx)
        have hzl : (zs ++ us.drop i).length = d.cache.length := by rw [List.length_append, List.length_drop]; omega
        refine C.ex (fun q : Nat × Array Value => [blk q.1 q.2 90, mR fp zs ((d.cache.take i).map (·.2)), rowR 22 1 (.slice A8 d.secs.length c8) d.secs.length ws, gR 5 ws d.secs, blk b3 #[.slice A8 d.secs.length c8, .slice A11 d.cache.length c11] 50, blk b2 #[.slice none 0 0, .slice none 0 0] 50]) _ (fun w h => h.row_blk (by omega)) ?_
        rintro ⟨bv, cv⟩ ⟨rfl, hc8, hc82, hcs, hct⟩
        dsimp only at hcs hct ⊢
        refine C.skip ?_
        refine C.seq ?_
        refine C.block ?_
        refine C.seq ?_
        refine C.region ?_
        refine J.move rfl rfl rfl rfl rfl ?_
        refine J.asg rfl rfl rfl rfl rfl ?_
        refine J.nil ?_
        refine C.regionD0 12 (by kernel_rfl) ?_
        refine JD.take 0 rfl rfl rfl rfl (by kernel_rfl) (fun w h => h) (R.fld (k := 1) rfl rfl Tryz.runUnderlying50 rfl rfl Tryz.sizeOf48) ?_
        refine JD.take 1 rfl rfl rfl rfl (by kernel_rfl) (fun w h => h) (R.ld rfl rfl Tryz.isAgg48 (fun w h => cellL h 4 rfl rfl)) ?_
        refine JD.take 2 rfl rfl rfl rfl (by kernel_rfl) (fun w h => h) (R.move rfl rfl) ?_
        refine JD.take 3 rfl rfl rfl rfl (by kernel_rfl) (fun w h => h) (R.fld (k := 1) rfl rfl Tryz.runUnderlying50 rfl rfl Tryz.sizeOf48) ?_
        refine JD.take 4 rfl rfl rfl rfl (by kernel_rfl) (fun w h => h) (R.ld rfl rfl Tryz.isAgg48 (fun w h => cellL h 4 rfl rfl)) ?_
        refine JD.take 5 rfl rfl rfl rfl (by kernel_rfl) (fun w h => h) (R.move rfl rfl) ?_
        refine JD.take 6 rfl rfl rfl rfl (by kernel_rfl) (fun w h => h) (by first | exact (R.idxn rfl rfl rfl Tryz.runUnderlying48 Tryz.sizeOf90 (by omega)) | exact (R.idx rfl rfl rfl Tryz.runUnderlying48 Tryz.sizeOf90 (by omega))) ?_
        refine JD.take 7 rfl rfl rfl rfl (by kernel_rfl) (fun w h => h) (R.fld (k := 1) rfl rfl Tryz.runUnderlying90 rfl rfl Tryz.sizeOf22) ?_
        refine JD.take 8 rfl rfl rfl rfl (by kernel_rfl) (fun w h => h) (R.ld rfl rfl Tryz.isAgg22 (fun w h => cellO h 0 rfl (by rw [Nat.zero_add]; exact getArr hct (wcells_get2 hzl hlt (get_mid2 hzs hu))))) ?_
        refine JD.step 9 rfl (by kernel_rfl) ?_
        refine J.callr rfl rfl rfl rfl rfl Tryz.call95 (fun w h => CloneRow_calls w u x.2 (h.ba (hub i u x hu hx)) (by omega))  ?_
        rintro v45 r45 rfl
        refine J.fact (fun w h => row_form (h.get 0 rfl)) ?_
        rintro ⟨A45, c45, rfl, -, -⟩
        refine J.nil ⟨(fun _ w h => (h.sub ((List.Sublist.refl _).cons _))), ?_⟩
        refine JD.take 10 rfl rfl rfl rfl (by kernel_rfl) (fun w h => (h.sub ((List.Sublist.refl _).cons _))) (by first | exact (R.idxn rfl rfl rfl Tryz.runUnderlying48 Tryz.sizeOf90 (by omega)) | exact (R.idx rfl rfl rfl Tryz.runUnderlying48 Tryz.sizeOf90 (by omega))) ?_
        refine JD.take 11 rfl rfl rfl rfl (by kernel_rfl) (fun w h => (h.sub ((List.Sublist.refl _).cons _))) (R.fld (k := 1) rfl rfl Tryz.runUnderlying90 rfl rfl Tryz.sizeOf22) ?_
        refine JD.step 12 rfl (by kernel_rfl) ?_
        refine J.st1 1 rfl rfl rfl rfl rfl rfl Tryz.sizeOf22 rfl rfl (by rw [Nat.blt_eq]; omega) rfl ?_
        refine J.nil ⟨(fun h => by cases h), ?_⟩
        refine JD.done (by kernel_rfl) ?_
        refine C.region ?_
        refine J.bin rfl rfl rfl rfl rfl rfl (fun w => ra_add (by omega)) ?_
        refine J.move rfl rfl rfl rfl rfl ?_
        refine J.nil ?_
        refine ⟨rfl, (i + 1, zs ++ [.slice A45 x.2.length c45], fun b => fp b ∨ (Value.slice A45 x.2.length c45).ownBlock = some b), ⟨by dsimp only; omega, by dsimp only; simp [hzs]⟩, by dsimp only; omega, (Sub.cons rfl (Sub.cons rfl (Sub.cons rfl (Sub.cons rfl (Sub.nil _))))), fun w h => ?_⟩
        have g1 := (row_rb (h.ord [0, 2, 1, 3, 4, 5, 6] (by decide)) rfl).msnoc
        rw [show (d.cache.take i).map (·.2) ++ [x.2] = (d.cache.take (i + 1)).map (·.2) by rw [List.take_add_one, hx, List.map_append]; rfl] at g1
        refine (g1.ord [1, 0, 2, 3, 4, 5] (by decide)).blk_row2 hc8 hc82 (by simpa using hcs) ?_
        rw [Nat.zero_add, setArr hct (by omega), wcells_set hzl i hlt, set_mid hzs hius]
      · have hin : i = d.cache.length := by have := of_decide_eq_false h; omega
        rw [hin, List.take_length, List.drop_of_length_le (by omega), List.append_nil]
        refine C.exit rfl ?_
        refine C.seq ?_
        refine C.region ?_
        refine J.ldw 4 rfl rfl rfl rfl rfl Tryz.isAgg50 rfl Tryz.sizeOf50 ?_
        first | refine J.stwc 5 rfl rfl rfl rfl rfl rfl Tryz.sizeOf50 (by first | rfl | assumption | simp [Value.cells, Value.oneCell']) rfl rfl ?_ | refine J.stw 5 rfl rfl rfl rfl rfl rfl Tryz.sizeOf50 (by first | rfl | assumption | simp [Value.cells, Value.oneCell']) rfl rfl ?_
        refine J.nil ?_
        refine C.ret ?_
        refine fin1 rfl (RV.cellw 5 rfl Tryz.isAgg50 rfl Tryz.sizeOf50) (fun w' h => ?_)
        exact (h.ord [2, 3, 0, 1] (by decide)).retL (List.Sublist.refl _) ⟨A8, c8, A11, c11, ws, zs, fp, by omega, rfl, rfl⟩
end Go.Proofs.YtiminmnmeknioaaGreatDoor

/- slices.Chunk of octets, by 64. -/
set_option linter.unusedVariables false
namespace Go.Proofs.YtiminmnmeknioaaGreatDoor
open Go Go.RowKit

theorem Chunk_calls (w : World) (A : Option Addr) (n c : Nat) : Calls Tryz.prog 88 #[.slice A n c, vi 64] w (RetL No w (fun u Rs => ∃ ba bn, u = .func (.func 109) #[] #[.pointer (some ⟨ba, 0, none⟩), .pointer (some ⟨bn, 0, none⟩)] ∧ Rs = [blk bn #[vi 64] 3, blk ba #[.slice A n c] 22])) := by
  refine calls_of_C Tryz.func88 rfl Tryz.ntmps88 (Nat.le_of_ble_eq_true rfl) ?_
  refine C.less (L' := [(0, _), (1, _)]) ?_ (Sub.cons rfl (Sub.cons rfl (Sub.nil _))) (fun w h => h)
  refine C.seq ?_
  refine C.region ?_
  first | refine J.boxc rfl rfl rfl rfl rfl rfl (fun b2 => ?_) | refine J.box rfl rfl rfl rfl rfl (fun b2 => ?_)
  first | refine J.boxc rfl rfl rfl rfl rfl rfl (fun b3 => ?_) | refine J.box rfl rfl rfl rfl rfl (fun b3 => ?_)
  refine J.asg rfl rfl rfl rfl rfl ?_
  refine J.nil ?_
  refine C.seq ?_
  refine C.seq ?_
  refine C.region ?_
  refine J.ldo 0 rfl rfl rfl rfl rfl Tryz.isAgg3 rfl rfl ?_
  refine J.bin rfl rfl rfl rfl rfl rfl (fun w => rfl) ?_
  refine J.nil ?_
  refine C.cond_f rfl ?_
  refine C.skip ?_
  refine C.seq ?_
  refine C.region ?_
  refine J.mkfn2 rfl rfl rfl rfl rfl rfl ?_
  refine J.asg rfl rfl rfl rfl rfl ?_
  refine J.nil ?_
  refine C.ret ?_
  exact fin1 rfl (RV.tmp rfl) (fun w' h => h.retL (List.Sublist.refl _) ⟨_, _, rfl, rfl⟩)
theorem chunk_sub {A : Option Addr} {N c i : Nat} {k : Int} (h0 : 0 ≤ k) (hk : k.toNat = min 64 (N - i * 64)) (hi : i * 64 < N) (xs : List UInt8) : SubV (.slice A N c) xs (.slice (if (((i * 64 : Nat) : Int) + k).toNat = ((i * 64 : Nat) : Int).toNat then A else A.map (·.add (((i * 64 : Nat) : Int).toNat * 1))) ((((i * 64 : Nat) : Int) + k).toNat - ((i * 64 : Nat) : Int).toNat) ((((i * 64 : Nat) : Int) + k).toNat - ((i * 64 : Nat) : Int).toNat)) ((xs.drop (i * 64)).take 64) := fun fp w hh => by
  have hl := srcB_len hh
  have e : (xs.drop (i * 64)).take 64 = (xs.drop (i * 64)).take k.toNat := by
    rw [hk]
    rcases Nat.lt_or_ge (N - i * 64) 64 with h | h
    · rw [List.take_of_length_le (by rw [List.length_drop]; omega), List.take_of_length_le (by rw [List.length_drop]; omega)]
    · rw [Nat.min_eq_left h]
  rw [e]
  exact SubV.cut3 _ _ _ (i * 64) k.toNat rfl (by omega) rfl (by omega) fp w hh
theorem chunk_it {mu : Nat → Prop} {w0 w : World} (l ba bn : Nat) (rec : Loop) (A : Option Addr) (N c : Nat) (Inv : Nat → List Res → Prop) (Stop : List Res → Prop) (kr ka kn : Nat) (hN : N ≤ c) (hc : N ≤ 140737488355328)
    (hpos : ∀ i M, Inv i M → M[kr]? = some (obj l (lp .ready none rec)) ∧ M[ka]? = some (blk ba #[.slice A N c] 22) ∧ M[kn]? = some (blk bn #[vi 64] 3)) (hp : rec.params.size = 1)
    (hround : ∀ i M u (w : World), i * 64 < N → Inv i M → (∀ xs : List UInt8, SubV (.slice A N c) xs u ((xs.drop (i * 64)).take 64)) → St mu w0 M w → RoundIn (FW none) 0 Tryz.prog l rec.fn (rtmps rec [u]) rec.assign rec.body w (fun e w' => ∃ b, e = .returned (.bool b) ∧ ∃ M', St mu w0 M' w' ∧ (if b then Inv (i + 1) M' else Stop M')))
    {M0 : List Res} (h0 : Inv 0 M0) (hst : St mu w0 M0 w) :
    Calls Tryz.prog 109 #[yld l, .pointer (some ⟨ba, 0, none⟩), .pointer (some ⟨bn, 0, none⟩)] w (fun e w' => (∃ v, e = .returned v) ∧ ((∃ M, St mu w0 M w' ∧ Inv ((N + 63) / 64) M) ∨ ∃ M, St mu w0 M w' ∧ Stop M)) := by
  refine calls_of_Cg (mu := mu) (M0 := M0) Tryz.func109 rfl Tryz.ntmps109 (Nat.le_of_ble_eq_true rfl) hst ?_
  refine C.less (L' := [(0, _), (1, _), (2, _)]) ?_ (Sub.cons rfl (Sub.cons rfl (Sub.cons rfl (Sub.nil _)))) (fun w h => h)
  refine C.seq ?_
  refine C.region ?_
  refine J.asg rfl rfl rfl rfl rfl ?_
  refine J.nil ?_
  refine C.block ?_
  refine C.loop (σ := Nat × List Res) (fun s => Inv s.1 s.2 ∧ s.1 * 64 < N + 64) (fun s => [(0, yld l), (1, .pointer (some ⟨ba, 0, none⟩)), (2, .pointer (some ⟨bn, 0, none⟩)), (4, vi ((s.1 * 64 : Nat) : Int))]) (fun s => s.2) (fun s => N + 64 - s.1 * 64) (0, M0) ⟨h0, by omega⟩ ?_ ?_ ?_
  · exact (Sub.cons rfl (Sub.cons rfl (Sub.cons rfl (Sub.cons rfl (Sub.nil _)))))
  · exact fun w h => h
  rintro ⟨i, M⟩ ⟨hi, hiN⟩
  dsimp only at hi hiN ⊢
  obtain ⟨p1, p2, p3⟩ := hpos i M hi
  refine C.seq ?_
  refine C.seq ?_
  refine C.region ?_
  refine J.move rfl rfl rfl rfl rfl ?_
  refine J.ld rfl rfl rfl rfl rfl Tryz.isAgg22 (fun w h => cellO h ka p2 rfl) ?_
  refine J.len rfl rfl rfl rfl rfl Tryz.runUnderlying22 ?_
  refine J.bin rfl rfl rfl rfl rfl rfl (fun w => rfl) ?_
  refine J.nil ?_
  refine C.cond rfl (fun h => ?_) (fun h => ?_)
  · have hlt : i * 64 < N := by have := of_decide_eq_true h; omega
    refine C.skip ?_
    refine C.seq ?_
    refine C.block ?_
    refine C.seq ?_
    refine C.regionD0 7 (by kernel_rfl) ?_
    refine JD.take 2 rfl rfl rfl rfl (by kernel_rfl) (fun w h => h) (R.move rfl rfl) ?_
    refine JD.take 0 rfl rfl rfl rfl (by kernel_rfl) (fun w h => h) (R.ld rfl rfl Tryz.isAgg3 (fun w h => cellO h kn p3 rfl)) ?_
    refine JD.take 1 rfl rfl rfl rfl (by kernel_rfl) (fun w h => h) (R.ld rfl rfl Tryz.isAgg22 (fun w h => cellO h ka p2 rfl)) ?_
    refine JD.take 3 rfl rfl rfl rfl (by kernel_rfl) (fun w h => h) (R.slc (l1 := some _) (h1 := none) (m1 := none) rfl rfl rfl rfl rfl (slc_l Tryz.underlying22 Tryz.sizeOf5 (by omega) (by omega))) ?_
    refine JD.take 4 rfl rfl rfl rfl (by kernel_rfl) (fun w h => h) (R.len rfl rfl Tryz.runUnderlying22) ?_
    refine JD.take 5 rfl rfl rfl rfl (by kernel_rfl) (fun w h => h) (R.min rfl rfl rfl) ?_
    refine JD.take 6 rfl rfl rfl rfl (by kernel_rfl) (fun w h => h) (R.asg rfl rfl) ?_
    refine JD.done (by kernel_rfl) ?_
    refine C.seq ?_
    refine C.region ?_
    refine J.move rfl rfl rfl rfl rfl ?_
    refine J.ld rfl rfl rfl rfl rfl Tryz.isAgg22 (fun w h => cellO h ka p2 rfl) ?_
    rw [show (N - (((i * 64 : Nat) : Int)).toNat : Nat) = N - i * 64 by omega]
    generalize hk : (if ((N - i * 64 : Nat) : Int) < 64 then ((N - i * 64 : Nat) : Int) else 64) = k
    have hk0 : 0 < k ∧ k.toNat = min 64 (N - i * 64) := by rw [← hk]; split <;> omega
    obtain ⟨hk0, hk1⟩ := hk0
    refine J.move rfl rfl rfl rfl rfl ?_
    refine J.move rfl rfl rfl rfl rfl ?_
    refine J.move rfl rfl rfl rfl rfl ?_
    refine J.bin rfl rfl rfl rfl rfl rfl (fun w => ra_add (by omega)) ?_
    refine J.move rfl rfl rfl rfl rfl ?_
    refine J.move rfl rfl rfl rfl rfl ?_
    refine J.bin rfl rfl rfl rfl rfl rfl (fun w => ra_add (by omega)) ?_
    refine J.slc (l1 := some _) (h1 := some _) (m1 := some _) rfl rfl rfl rfl rfl rfl rfl rfl (slc_lhm Tryz.underlying22 Tryz.sizeOf5 (by omega) (by omega) (by omega) (by omega)) ?_
    refine J.yield kr (vs := [_]) (Φ := fun b M' => if b then Inv (i + 1) M' else Stop M') rfl rfl rfl rfl rfl rfl p1 (by rw [hp]; rfl) (fun w h => hround i M _ w hlt hi (chunk_sub (by omega) hk1 hlt) h) ?_
    rintro b M' hb
    cases b
    · refine J.not rfl rfl rfl rfl rfl ?_
      refine J.nil ?_
      refine C.cond_t rfl ?_
      refine C.ret ?_
      exact fin0 rfl (fun w' h => ⟨⟨_, rfl⟩, .inr ⟨M', h, hb⟩⟩)
    · obtain ⟨q1, q2, q3⟩ := hpos (i + 1) M' hb
      refine J.not rfl rfl rfl rfl rfl ?_
      refine J.nil ?_
      refine C.cond_f rfl ?_
      refine C.skip ?_
      refine C.region ?_
      refine J.move rfl rfl rfl rfl rfl ?_
      refine J.ld rfl rfl rfl rfl rfl Tryz.isAgg3 (fun w h => cellO h kn q3 rfl) ?_
      refine J.bin rfl rfl rfl rfl rfl rfl (fun w => ra_add (by omega)) ?_
      refine J.asg rfl rfl rfl rfl rfl ?_
      refine J.nil ?_
      exact ⟨rfl, (i + 1, M'), ⟨hb, by dsimp only; omega⟩, by dsimp only; omega, (Sub.cons rfl (Sub.cons rfl (Sub.cons rfl (Sub.cons (by rw [Nat.add_mul]; rfl) (Sub.nil _))))), fun w h => h⟩
  · have hge : N ≤ i * 64 := by have := of_decide_eq_false h; omega
    refine C.exit rfl ?_
    exact fin0 rfl (fun w' h => ⟨⟨_, rfl⟩, .inl ⟨M, h, by rw [show (N + 63) / 64 = i by omega]; exact hi⟩⟩)
end Go.Proofs.YtiminmnmeknioaaGreatDoor

/- State.put. -/
set_option linter.unusedVariables false
namespace Go.Proofs.YtiminmnmeknioaaGreatDoor
open Go Go.RowKit

def pad64 (x : List UInt8) : List UInt8 := x ++ List.replicate (64 - x.length) 0
def putW (s : Int) (data : List UInt8) (k : Nat) : List Wr := (List.range k).map fun (i : Nat) => (s + (i : Int), pad64 ((data.drop (i * 64)).take 64))
def nch (data : List UInt8) : Nat := (data.length + 63) / 64
def dkPut (d : Dk) (s : Int) (data : List UInt8) : Dk := ⟨d.secs, d.cache ++ putW s data (nch data)⟩
theorem putW_succ (s : Int) (data : List UInt8) (k : Nat) : putW s data (k + 1) = putW s data k ++ [(s + k, pad64 ((data.drop (k * 64)).take 64))] := by unfold putW; rw [List.range_succ, List.map_append]; rfl
theorem putW_len (s : Int) (data : List UInt8) (k : Nat) : (putW s data k).length = k := by unfold putW; simp
theorem pad64_len {x : List UInt8} (h : x.length ≤ 64) : (pad64 x).length = 64 := by unfold pad64; simp; omega
/-- A disk in memory of the call's own. -/
def PSt (d : Dk) : Value → List Res → Prop := fun v Rs => ∃ A1 c1 A2 c2 vs fp, Rs = [rowR 22 1 (.slice A1 d.secs.length c1) d.secs.length vs, gR 5 vs d.secs, rwsR fp (.slice A2 d.cache.length c2) d.cache] ∧ v = .agg #[.slice A1 d.secs.length c1, .slice A2 d.cache.length c2]
theorem wcells_snoc (xs : List Wr) (us : List Value) (h : us.length = xs.length) (x : Wr) (u : Value) : wcells (xs ++ [x]) (us ++ [u]) = wcells xs us ++ [vi x.1, u] := by
  unfold wcells
  rw [List.zipWith_append h.symm, List.flatten_append]
  rfl
theorem St.rws_of {mu : Nat → Prop} {w0 w : World} {M : List Res} {e : TypeId} {v : Value} {n : Nat} {xs : List Wr} {us : List Value} {fp : Nat → Prop} (h : St mu w0 (rowR e 2 v n (wcells xs us) :: mR fp us (xs.map (·.2)) :: M) w) : St mu w0 (rwsR (fun b => v.ownBlock = some b ∨ fp b) v xs :: M) w := by
  have h1 : w.ownsRow 0 e 2 v n (wcells xs us) := h.get 0 rfl
  have h2 : (mR fp us (xs.map (·.2))).hold w := h.get 1 rfl
  have hl2 : us.length = xs.length := by have := h2.1; simpa using this
  have hl : xs.length = n := by have := h1.1; rw [wcells_len hl2] at this; omega
  refine h.merge ?_ (fun b hb => hb)
  show RWS _ w v xs
  rcases h1.2 with ⟨rfl, rfl⟩ | ⟨g, cap, cur, rfl, _, hh, e1, e2, e3, e4⟩
  · obtain rfl : xs = [] := List.eq_nil_of_length_eq_zero (by omega)
    exact RWS.nil
  · refine RWS.mk hl e1 (by simpa [maxLen] using e2) fun hn => ⟨g, 0, rfl, .inl rfl, fun j x hx => ?_⟩
    have hj : j < xs.length := (List.getElem?_eq_some_iff.1 hx).1
    have hu : us[j]? = some (us[j]'(by omega)) := List.getElem?_eq_getElem (by omega)
    have c1 := h1.cells (g := g) rfl (j * 2) _ (wcells_get1 hl2 hx)
    have c2 := h1.cells (g := g) rfl (j * 2 + 1) _ (wcells_get2 hl2 hj hu)
    rw [Addr.add_mid] at c1 c2
    exact ⟨_, c1, c2, RB.imp (h2.2 j _ x.2 hu (by rw [List.getElem?_map, hx]; rfl)) (fun _ h => .inr h) (fun _ _ => rfl)⟩
theorem pad_cells (x : List UInt8) (z : Value) : (List.replicate 64 z).toArray.toList.take 0 ++ x.map vu8 ++ (List.replicate 64 z).toArray.toList.drop (0 + (x.map vu8).length) = x.map vu8 ++ List.replicate (64 - x.length) z := by
  rw [List.take_zero, List.nil_append, Nat.zero_add, List.length_map, List.drop_replicate]
theorem pad_row {mu : Nat → Prop} {w0 w : World} {M : List Res} {b : Nat} {e : TypeId} {x : List UInt8} {cs : List Value} (hx : x.length ≤ 64) (hcs : cs = x.map vu8 ++ List.replicate (64 - x.length) (Value.int .u8 0)) (h : St mu w0 (blk b cs.toArray e :: M) w) : St mu w0 (rbR (fun k => (Value.slice (some ⟨b, 0, none⟩) 64 64).ownBlock = some k) (.slice (some ⟨b, 0, none⟩) 64 64) (pad64 x) :: M) w := by
  subst hcs
  have h2 := blk_row (n := 64) (sz := 1) h (by omega) (by simp; omega)
  refine row_rb h2 ?_
  unfold pad64
  rw [List.map_append, List.map_replicate]
  rfl
end Go.Proofs.YtiminmnmeknioaaGreatDoor

/- State.put: the walk. -/
set_option linter.unusedVariables false
namespace Go.Proofs.YtiminmnmeknioaaGreatDoor
open Go Go.RowKit

theorem put_calls (w : World) (d : Dk) (sv cv dv : Value) (s : Int) (data : List UInt8) (hs : BSA w sv d.secs) (hc : WSA w cv d.cache) (hok : dkBad d = false) (hx : BA w dv data) (h0 : 0 ≤ s) (hsn : s + nch data ≤ 2048) : Calls Tryz.prog 51 #[.agg #[sv, cv], vi s, dv] w (RetL No w (PSt (dkPut d s data))) := by
  have hs0 := hs
  have hc0 := hc
  have hx0 := hx
  obtain ⟨⟨hs1, hs2⟩, hc1, hsl, hcl⟩ := dkOk hok
  obtain ⟨As, cs, rfl, -, -, -⟩ := hs.form
  obtain ⟨Ac, cc, rfl, -, -, -⟩ := hc.form
  obtain ⟨A, c, rfl, hN, hcN, -⟩ := hx.form
  have hnch : nch data = (data.length + 63) / 64 := rfl
  refine calls_of_CM (mu := No) (M0 := []) Tryz.func51 rfl Tryz.ntmps51 (Nat.le_of_ble_eq_true rfl) (St.init w) ?_
  refine C.less (L' := [(0, _), (1, _), (2, _)]) ?_ (Sub.cons rfl (Sub.cons rfl (Sub.cons rfl (Sub.nil _)))) (fun w h => h)
  refine C.seq ?_
  refine C.region ?_
  first | refine J.boxc rfl rfl rfl rfl rfl rfl (fun b3 => ?_) | refine J.box rfl rfl rfl rfl rfl (fun b3 => ?_)
  first | refine J.boxc rfl rfl rfl rfl rfl rfl (fun b4 => ?_) | refine J.box rfl rfl rfl rfl rfl (fun b4 => ?_)
  refine J.allocc rfl rfl rfl rfl Tryz.zeroValue50 rfl (fun b6 => ?_)
  refine J.nil ?_
  refine C.seq ?_
  refine C.region ?_
  refine J.ldw 2 rfl rfl rfl rfl rfl Tryz.isAgg50 rfl Tryz.sizeOf50 ?_
  refine J.callrl rfl rfl rfl rfl rfl Tryz.call87 (fun w h => clone_calls w d _ _ (h.bsa hs0) (h.wsa hc0) hok)  ?_
  rintro v11 R11 ⟨A1, c1, A2, c2, vs, us, fp, hul0, rfl, rfl⟩
  refine J.allocc rfl rfl rfl rfl Tryz.zeroValue50 rfl (fun b7 => ?_)
  first | refine J.stwc 0 rfl rfl rfl rfl rfl rfl Tryz.sizeOf50 (by first | rfl | assumption | simp [Value.cells, Value.oneCell']) rfl rfl ?_ | refine J.stw 0 rfl rfl rfl rfl rfl rfl Tryz.sizeOf50 (by first | rfl | assumption | simp [Value.cells, Value.oneCell']) rfl rfl ?_
  refine J.nil ?_
  refine C.seq ?_
  refine C.seq ?_
  refine C.region ?_
  refine J.move rfl rfl rfl rfl rfl ?_
  refine J.callrl rfl rfl rfl rfl rfl Tryz.call88 (fun w h => Chunk_calls w A data.length c)  ?_
  rintro v13 R13 ⟨ba, bn, rfl, rfl⟩
  refine J.nil ?_
  refine C.block ?_
  refine C.rangeFunc rfl rfl Tryz.call109 ?_
  intro k l r hps has hbd hhas w1 hst
  refine (chunk_it l ba bn r A data.length c (fun i M => ∃ A2 c2 us fp, us.length = d.cache.length + i ∧ M = [obj l (lp .ready none r), obj k (.deferred (some [])), blk bn #[vi 64] 3, blk ba #[.slice A data.length c] 22, blk b7 #[.slice A1 d.secs.length c1, .slice A2 (d.cache.length + i) c2] 50, rowR 22 1 (.slice A1 d.secs.length c1) d.secs.length vs, gR 5 vs d.secs, rowR 90 2 (.slice A2 (d.cache.length + i) c2) (d.cache.length + i) (wcells (d.cache ++ putW s data i) us), mR fp us ((d.cache ++ putW s data i).map (·.2)), blk b6 #[.slice none 0 0, .slice none 0 0] 50, blk b4 #[vi (s + i)] 3]) (fun _ => False) 0 3 2 hN (by omega) ?_ (by rw [hps]; rfl) ?_ (M0 := [obj l (lp .ready none r), obj k (.deferred (some [])), blk bn #[vi 64] 3, blk ba #[.slice A data.length c] 22, blk b7 #[.slice A1 d.secs.length c1, .slice A2 d.cache.length c2] 50, rowR 22 1 (.slice A1 d.secs.length c1) d.secs.length vs, gR 5 vs d.secs, rowR 90 2 (.slice A2 d.cache.length c2) d.cache.length (wcells d.cache us), mR fp us (d.cache.map (·.2)), blk b6 #[.slice none 0 0, .slice none 0 0] 50, blk b4 #[vi s] 3]) ⟨A2, c2, us, fp, hul0, by simp [putW]⟩ (hst.ord [0, 1, 2, 3, 4, 5, 6, 7, 8, 9, 10] (by decide))).mono ?_
  · rintro i M ⟨A2, c2, us, fp, hul, rfl⟩
    exact ⟨rfl, rfl, rfl⟩
  · rintro i M u w2 hi ⟨A2, c2, us, fp, hul, rfl⟩ hu hw2
    have hsub := hu data
    obtain ⟨Au, cu, rfl, hu1, hu2, hu3⟩ := (hsub _ _ hx0).form
    generalize hxe : (data.drop (i * 64)).take 64 = x at hsub hu1 hu2 hu3 ⊢
    have hx64 : x.length ≤ 64 := by rw [← hxe, List.length_take]; omega
    have hin : i < nch data := by omega
    refine (round_C (n := 0) (Φ := fun b M' => b = true ∧ ∀ w', St No w M' w' → ∃ M'', St No w M'' w' ∧ ∃ A2 c2 us fp, us.length = d.cache.length + (i + 1) ∧ M'' = [obj l (lp .ready none r), obj k (.deferred (some [])), blk bn #[vi 64] 3, blk ba #[.slice A data.length c] 22, blk b7 #[.slice A1 d.secs.length c1, .slice A2 (d.cache.length + (i + 1)) c2] 50, rowR 22 1 (.slice A1 d.secs.length c1) d.secs.length vs, gR 5 vs d.secs, rowR 90 2 (.slice A2 (d.cache.length + (i + 1)) c2) (d.cache.length + (i + 1)) (wcells (d.cache ++ putW s data (i + 1)) us), mR fp us ((d.cache ++ putW s data (i + 1)).map (·.2)), blk b6 #[.slice none 0 0, .slice none 0 0] 50, blk b4 #[vi (s + ((i + 1 : Nat) : Int))] 3]) [] hw2 (hhas.round1 hps rfl) ?_).mono ?_
    · rw [has]
      refine C.region ?_
      refine J.asg rfl rfl rfl rfl rfl ?_
      refine J.nil ?_
      refine ⟨0, rfl, ?_⟩
      rw [hbd]
      refine C.block ?_
      refine C.seq ?_
      refine C.region ?_
      refine J.mk rfl rfl rfl rfl rfl rfl (n := 64) rfl rfl  Tryz.underlying22 inf5 rfl  (by omega) (by omega) (fun b15 => ?_)
      refine J.asg rfl rfl rfl rfl rfl ?_
      refine J.nil ?_
      refine C.seq ?_
      refine C.region ?_
      refine J.move rfl rfl rfl rfl rfl ?_
      refine J.move rfl rfl rfl rfl rfl ?_
      refine J.copy 0 rfl rfl rfl rfl rfl rfl Tryz.underlying22 (inf_size inf5) rfl (news := x.map vu8) (by rw [List.length_map]; exact (Nat.min_eq_left hx64).symm) (fun w' h hn => srcB (hsub _ _ (h.ba hx0)) hn) (by simp; omega) (all_u8 x) ?_
      refine J.nil ?_
      refine C.seq ?_
      refine C.region ?_
      refine J.fld (k := 1) rfl rfl rfl rfl rfl Tryz.runUnderlying50 rfl rfl Tryz.sizeOf48 ?_
      refine J.ldo 5 rfl rfl rfl rfl rfl Tryz.isAgg48 rfl rfl ?_
      refine J.ldo 11 rfl rfl rfl rfl rfl Tryz.isAgg3 rfl rfl ?_
      refine J.move rfl rfl rfl rfl rfl ?_
      refine J.bld (pl := #[(0, 1), (1, 1)]) (cells := #[_, _]) rfl rfl rfl rfl rfl Tryz.zeroValue90 Tryz.runUnderlying90 (fun w => by kernel_rfl) rfl ?_
      refine J.blds (vs := [_]) (cells := [_, _]) rfl rfl rfl rfl rfl Tryz.zeroValue90 Tryz.runUnderlying48 Tryz.sizeOf90 rfl rfl rfl rfl (fun b24 => ?_)
      refine J.app 9 rfl rfl rfl rfl rfl rfl Tryz.underlying48 inf90 rfl rfl rfl rfl (news := [vi (s + i), .slice (some ⟨b15, 0, none⟩) 64 64]) rfl (fun w' h hn => srcO h 0 rfl) rfl (by omega) (fun v25 => ?_)
      refine J.fact (fun w h => row_form (h.get 9 rfl)) ?_
      rintro ⟨A25, c25, rfl, -, -⟩
      refine J.fld (k := 1) rfl rfl rfl rfl rfl Tryz.runUnderlying50 rfl rfl Tryz.sizeOf48 ?_
      refine J.st1 6 rfl rfl rfl rfl rfl rfl Tryz.sizeOf48 (by first | rfl | assumption | simp [Value.cells, Value.oneCell']) rfl rfl rfl ?_
      refine J.nil ?_
      refine C.region ?_
      refine J.ldo 12 rfl rfl rfl rfl rfl Tryz.isAgg3 rfl rfl ?_
      refine J.bin rfl rfl rfl rfl rfl rfl (fun w => ra_add (by omega)) ?_
      first | refine J.stwc 12 rfl rfl rfl rfl rfl rfl Tryz.sizeOf3 (by first | rfl | assumption | simp [Value.cells, Value.oneCell']) rfl rfl ?_ | refine J.stw 12 rfl rfl rfl rfl rfl rfl Tryz.sizeOf3 (by first | rfl | assumption | simp [Value.cells, Value.oneCell']) rfl rfl ?_
      refine J.nil ?_
      refine ⟨2, rfl, rfl, fun w' h => ⟨_, ?_, A25, c25, us ++ [.slice (some ⟨b15, 0, none⟩) 64 64], fun b => fp b ∨ (Value.slice (some ⟨b15, 0, none⟩) 64 64).ownBlock = some b, by simp [hul]; omega, rfl⟩⟩
      have g1 := (pad_row hx64 (pad_cells x _) (h.ord [1, 10, 2, 3, 4, 5, 6, 7, 8, 9, 11, 12] (by decide))).msnoc
      have g2 := g1.ord [1, 2, 3, 4, 5, 6, 7, 8, 0, 9, 10] (by decide)
      rw [putW_succ, hxe, ← List.append_assoc, wcells_snoc _ _ (by rw [hul]; simp [putW_len]), List.map_append]
      rw [show s + ((i + 1 : Nat) : Int) = s + (i : Int) + 1 by omega]
      exact g2
    · rintro e w' ⟨b, rfl, M', h1, rfl, h2⟩
      exact ⟨true, rfl, h2 w' h1⟩
  · rintro e w' ⟨hv, h⟩
    rcases h with ⟨M, hM, A2, c2, us, fp, hul, rfl⟩ | ⟨M, hM, hf⟩
    · refine ⟨hv, _, .ready, none, 0, hM, rfl, by simp, ?_⟩
      refine C.seq ?_
      refine C.region ?_
      refine J.ldw 3 rfl rfl rfl rfl rfl Tryz.isAgg50 rfl Tryz.sizeOf50 ?_
      first | refine J.stwc 8 rfl rfl rfl rfl rfl rfl Tryz.sizeOf50 (by first | rfl | assumption | simp [Value.cells, Value.oneCell']) rfl rfl ?_ | refine J.stw 8 rfl rfl rfl rfl rfl rfl Tryz.sizeOf50 (by first | rfl | assumption | simp [Value.cells, Value.oneCell']) rfl rfl ?_
      refine J.nil ?_
      refine C.ret ?_
      refine Or.inr ⟨k, 0, rfl, rfl, fin1 rfl (RV.cellw 8 rfl Tryz.isAgg50 rfl Tryz.sizeOf50) (fun w' h => ?_)⟩
      have g1 := (h.ord [6, 7, 4, 5] (by decide)).rws_of
      have hl : (dkPut d s data).cache.length = d.cache.length + (data.length + 63) / 64 := by unfold dkPut; rw [List.length_append, putW_len, hnch]
      refine (g1.ord [1, 2, 0] (by decide)).retL (List.Sublist.refl _) ⟨A1, c1, A2, c2, vs, fun b => (Value.slice A2 (d.cache.length + (data.length + 63) / 64) c2).ownBlock = some b ∨ fp b, ?_, ?_⟩
      · rw [hl]; rfl
      · rw [hl]; rfl
    · exact hf.elim
end Go.Proofs.YtiminmnmeknioaaGreatDoor

/- slices.Backward of writes. -/
set_option linter.unusedVariables false
namespace Go.Proofs.YtiminmnmeknioaaGreatDoor
open Go Go.RowKit

theorem RWS.at_ {fp : Nat → Prop} {w : World} {b o n c i : Nat} {xs : List Wr} {x : Wr} {u : Value} (h : RWS fp w (.slice (some ⟨b, o, none⟩) n c) xs) (hx : xs[i]? = some x) (hu : w.cell? ⟨b, o + i * 2 + 1, none⟩ = some u) : RB fp w u x.2 := by
  obtain ⟨A', c', hv, _, _, h3⟩ := h.form
  injection hv with e1 e2 e3
  subst e2 e3
  obtain ⟨b', o', e, _, hc⟩ := h3 (by have := (List.getElem?_eq_some_iff.1 hx).1; omega)
  rw [← e1] at e
  injection e with e
  injection e with e4 e5
  subst e4 e5
  obtain ⟨u', _, hu', hr⟩ := hc i x hx
  rw [hu] at hu'
  injection hu' with hu'
  subst hu'
  exact hr
theorem RBS.at_ {fp : Nat → Prop} {w : World} {b o n c i : Nat} {xs : List (List UInt8)} {x : List UInt8} {u : Value} (h : RBS fp w (.slice (some ⟨b, o, none⟩) n c) xs) (hx : xs[i]? = some x) (hu : w.cell? ⟨b, o + i, none⟩ = some u) : RB fp w u x := by
  obtain ⟨A', c', hv, _, _, h3⟩ := h.form
  injection hv with e1 e2 e3
  subst e2 e3
  obtain ⟨b', o', e, _, hc⟩ := h3 (by have := (List.getElem?_eq_some_iff.1 hx).1; omega)
  rw [← e1] at e
  injection e with e
  injection e with e4 e5
  subst e4 e5
  obtain ⟨u', hu', hr⟩ := hc i x hx
  rw [hu] at hu'
  injection hu' with hu'
  subst hu'
  exact hr
/-- A part of what was handed in, told by whoever knows that. -/
theorem RB.base {w0 w : World} (hb : Below w0.heap.size w0 w) {v : Value} {x : List UInt8} (h : RB (Old w0) w v x) : BA w0 v x := RB.imp h (fun _ h => h) (fun b hb' => (hb.block b hb').symm)
theorem RetV.mono {w w' : World} {e : Ending} {Φ Ψ : Value → Prop} (h : RetV w Φ e w') (hi : ∀ v, Φ v → Ψ v) : RetV w Ψ e w' := by
  obtain ⟨v, h1, h2, h3⟩ := h
  exact ⟨v, h1, h2, hi v h3⟩
theorem Backward_calls (w : World) (A : Option Addr) (n c : Nat) : Calls Tryz.prog 104 #[.slice A n c] w (RetL No w (fun u Rs => ∃ ba, u = .func (.func 123) #[] #[.pointer (some ⟨ba, 0, none⟩)] ∧ Rs = [blk ba #[.slice A n c] 48])) := by
  refine calls_of_C Tryz.func104 rfl Tryz.ntmps104 (Nat.le_of_ble_eq_true rfl) ?_
  refine C.less (L' := [(0, _)]) ?_ (Sub.cons rfl (Sub.nil _)) (fun w h => h)
  refine C.seq ?_
  refine C.region ?_
  first | refine J.boxc rfl rfl rfl rfl rfl rfl (fun b1 => ?_) | refine J.box rfl rfl rfl rfl rfl (fun b1 => ?_)
  refine J.asg rfl rfl rfl rfl rfl ?_
  refine J.nil ?_
  refine C.seq ?_
  refine C.region ?_
  refine J.mkfn2 rfl rfl rfl rfl rfl rfl ?_
  refine J.asg rfl rfl rfl rfl rfl ?_
  refine J.nil ?_
  refine C.ret ?_
  exact fin1 rfl (RV.tmp rfl) (fun w' h => h.retL (List.Sublist.refl _) ⟨_, rfl, rfl⟩)
theorem back_it {w0 w : World} (l ba : Nat) (rec : Loop) (A : Option Addr) (N c : Nat) (xs : List Wr) (hx : WSA w0 (.slice A N c) xs) (Inv : Nat → List Res → Prop) (Stop : List Res → Prop) (kr ka : Nat)
    (hpos : ∀ i M, Inv i M → M[kr]? = some (obj l (lp .ready none rec)) ∧ M[ka]? = some (blk ba #[.slice A N c] 48)) (hp : rec.params.size = 2)
    (hround : ∀ j i M u x (w : World), N = i + 1 + j → Inv j M → xs[i]? = some x → (∀ fp, RWS fp w0 (.slice A N c) xs → RB fp w0 u x.2) → St No w0 M w → RoundIn (FW none) 0 Tryz.prog l rec.fn (rtmps rec [vi (i : Int), .agg #[vi x.1, u]]) rec.assign rec.body w (fun e w' => ∃ b, e = .returned (.bool b) ∧ ∃ M', St No w0 M' w' ∧ (if b then Inv (j + 1) M' else Stop M')))
    {M0 : List Res} (h0 : Inv 0 M0) (hst : St No w0 M0 w) :
    Calls Tryz.prog 123 #[yld l, .pointer (some ⟨ba, 0, none⟩)] w (fun e w' => (∃ v, e = .returned v) ∧ ((∃ M, St No w0 M w' ∧ Inv N M) ∨ ∃ M, St No w0 M w' ∧ Stop M)) := by
  obtain ⟨A', c', hv, h1, h2, h3⟩ := hx.form
  injection hv with e1 e2 e3
  subst e1 e2 e3
  obtain ⟨p1, p2⟩ := hpos 0 M0 h0
  refine calls_of_Cg (mu := No) (M0 := M0) Tryz.func123 rfl Tryz.ntmps123 (Nat.le_of_ble_eq_true rfl) hst ?_
  refine C.less (L' := [(0, _), (1, _)]) ?_ (Sub.cons rfl (Sub.cons rfl (Sub.nil _))) (fun w h => h)
  refine C.seq ?_
  refine C.region ?_
  refine J.ld rfl rfl rfl rfl rfl Tryz.isAgg48 (fun w h => cellO h ka p2 rfl) ?_
  refine J.len rfl rfl rfl rfl rfl Tryz.runUnderlying48 ?_
  refine J.bin rfl rfl rfl rfl rfl rfl (fun w => ra_sub (by omega)) ?_
  refine J.asg rfl rfl rfl rfl rfl ?_
  refine J.nil ?_
  refine C.block ?_
  refine C.loop (σ := Nat × List Res) (fun s => Inv s.1 s.2 ∧ s.1 ≤ xs.length) (fun s => [(0, yld l), (1, .pointer (some ⟨ba, 0, none⟩)), (3, vi ((xs.length : Int) - 1 - (s.1 : Int)))]) (fun s => s.2) (fun s => xs.length - s.1) (0, M0) ⟨h0, Nat.zero_le _⟩ ?_ ?_ ?_
  · exact (Sub.cons rfl (Sub.cons rfl (Sub.cons (by dsimp only; rw [show (xs.length : Int) - 1 - ((0 : Nat) : Int) = (xs.length : Int) - 1 by omega]; rfl) (Sub.nil _))))
  · exact fun w h => h
  rintro ⟨j, M⟩ ⟨hj, hjN⟩
  dsimp only at hj hjN ⊢
  obtain ⟨q1, q2⟩ := hpos j M hj
  refine C.seq ?_
  refine C.seq ?_
  refine C.region ?_
  refine J.move rfl rfl rfl rfl rfl ?_
  refine J.bin rfl rfl rfl rfl rfl rfl (fun w => rfl) ?_
  refine J.nil ?_
  refine C.cond rfl (fun h => ?_) (fun h => ?_)
  · have hlt : j < xs.length := by have := of_decide_eq_true h; omega
    obtain ⟨i, hi⟩ : ∃ i, xs.length = i + 1 + j := ⟨xs.length - 1 - j, by omega⟩
    rw [show (xs.length : Int) - 1 - (j : Int) = (i : Int) by omega]
    obtain ⟨x, hxi⟩ : ∃ x, xs[i]? = some x := ⟨_, List.getElem?_eq_getElem (by omega)⟩
    obtain ⟨b, o, rfl, hb, hcell⟩ := h3 (by omega)
    obtain ⟨u, hu0, hu1, hr⟩ := hcell i x hxi
    refine C.skip ?_
    refine C.seq ?_
    refine C.block ?_
    refine C.seq ?_
    refine C.region ?_
    refine J.move rfl rfl rfl rfl rfl ?_
    refine J.move rfl rfl rfl rfl rfl ?_
    refine J.ld rfl rfl rfl rfl rfl Tryz.isAgg48 (fun w h => cellO h ka q2 rfl) ?_
    refine J.move rfl rfl rfl rfl rfl ?_
    first | refine J.idxn rfl rfl rfl rfl rfl rfl Tryz.runUnderlying48 Tryz.sizeOf90 (by omega) ?_ | refine J.idx rfl rfl rfl rfl rfl rfl Tryz.runUnderlying48 Tryz.sizeOf90 (by omega) ?_
    refine J.ldn (cs := [_, _]) rfl rfl rfl rfl rfl Tryz.isAgg90 Tryz.sizeOf90 (fun w h => cells2 (cellOld h hu0) (cellOld h hu1)) ?_
    refine J.yield kr (vs := [_, _]) (Φ := fun b M' => if b then Inv (j + 1) M' else Stop M') rfl rfl rfl rfl rfl rfl q1 (by rw [hp]; rfl) (fun w h => hround j i M u x w hi hj hxi (fun fp hf => hf.at_ hxi hu1) h) ?_
    rintro b M' hb
    cases b
    · refine J.not rfl rfl rfl rfl rfl ?_
      refine J.nil ?_
      refine C.cond_t rfl ?_
      refine C.ret ?_
      exact fin0 rfl (fun w' h => ⟨⟨_, rfl⟩, .inr ⟨M', h, hb⟩⟩)
    · refine J.not rfl rfl rfl rfl rfl ?_
      refine J.nil ?_
      refine C.cond_f rfl ?_
      refine C.skip ?_
      refine C.region ?_
      refine J.move rfl rfl rfl rfl rfl ?_
      refine J.bin rfl rfl rfl rfl rfl rfl (fun w => ra_sub (by omega)) ?_
      refine J.asg rfl rfl rfl rfl rfl ?_
      refine J.nil ?_
      exact ⟨rfl, (j + 1, M'), ⟨hb, hlt⟩, by dsimp only; omega, (Sub.cons rfl (Sub.cons rfl (Sub.cons (by dsimp only; rw [show (xs.length : Int) - 1 - ((j + 1 : Nat) : Int) = (i : Int) - 1 by omega]; rfl) (Sub.nil _)))), fun w h => h⟩
  · have hge : j = xs.length := by have := of_decide_eq_false h; omega
    subst hge
    refine C.exit rfl ?_
    exact fin0 rfl (fun w' h => ⟨⟨_, rfl⟩, .inl ⟨M, h, hj⟩⟩)
end Go.Proofs.YtiminmnmeknioaaGreatDoor

/- State.last. -/
set_option linter.unusedVariables false
namespace Go.Proofs.YtiminmnmeknioaaGreatDoor
open Go Go.RowKit

/-- What was put last. -/
def lastW (s : Int) (xs : List Wr) : Option (List UInt8) := (xs.reverse.find? (fun x => x.1 == s)).map (·.2)
theorem lastW_snoc (s : Int) (xs : List Wr) (x : Wr) : lastW s (xs ++ [x]) = if x.1 = s then some x.2 else lastW s xs := by
  unfold lastW
  rw [List.reverse_append, List.reverse_singleton, List.singleton_append, List.find?_cons]
  by_cases h : x.1 = s
  · simp [h]
  · rw [show (x.1 == s) = false by simpa using h, if_neg h]
theorem lastW_nil (s : Int) : lastW s [] = none := rfl
def dkLast (d : Dk) (s : Int) : List UInt8 := (lastW s d.cache).getD (d.secs.getD s.toNat [])
theorem lastW_len {d : Dk} {s : Int} (hc : ∀ x ∈ d.cache, x.2.length = 64) {y : List UInt8} (h : lastW s d.cache = some y) : y.length = 64 := by
  unfold lastW at h
  obtain ⟨x, hx, rfl⟩ := Option.map_eq_some_iff.1 h
  exact hc x (List.mem_reverse.1 (List.mem_of_find?_eq_some hx))
theorem dkLast_len {d : Dk} {s : Int} (h : dkBad d = false) (h0 : 0 ≤ s) (h1 : s < d.secs.length) : (dkLast d s).length = 64 := by
  obtain ⟨_, _, hs, hc⟩ := dkOk h
  unfold dkLast
  cases e : lastW s d.cache with
  | some y => exact lastW_len (fun x hx => (hc x hx).2.2) e
  | none =>
    have hlt : s.toNat < d.secs.length := by omega
    rw [Option.getD_none, List.getD_eq_getElem?_getD, List.getElem?_eq_getElem hlt]
    exact hs _ (List.getElem_mem _)
theorem take_snoc {α : Type} {xs : List α} {i : Nat} {x : α} (h : xs[i]? = some x) : xs.take (i + 1) = xs.take i ++ [x] := by rw [List.take_add_one, h]; rfl
theorem last_calls (w : World) (d : Dk) (sv cv : Value) (s : Int) (hs : BSA w sv d.secs) (hc : WSA w cv d.cache) (h0 : 0 ≤ s) (hsn : s < d.secs.length) : Calls Tryz.prog 81 #[.agg #[sv, cv], vi s] w (RetV w (fun v => ∀ fp, RBS fp w sv d.secs → RWS fp w cv d.cache → RB fp w v (dkLast d s))) := by
  obtain ⟨As, cs, rfl, hl1, hl2, hl3⟩ := hs.form
  obtain ⟨Ac, cc, rfl, -, -, -⟩ := hc.form
  refine calls_of_CM (mu := No) (M0 := []) Tryz.func81 rfl Tryz.ntmps81 (Nat.le_of_ble_eq_true rfl) (St.init w) ?_
  refine C.less (L' := [(0, _), (1, _)]) ?_ (Sub.cons rfl (Sub.cons rfl (Sub.nil _))) (fun w h => h)
  refine C.seq ?_
  refine C.region ?_
  first | refine J.boxc rfl rfl rfl rfl rfl rfl (fun b2 => ?_) | refine J.box rfl rfl rfl rfl rfl (fun b2 => ?_)
  first | refine J.boxc rfl rfl rfl rfl rfl rfl (fun b3 => ?_) | refine J.box rfl rfl rfl rfl rfl (fun b3 => ?_)
  refine J.allocc rfl rfl rfl rfl Tryz.zeroValue22 rfl (fun b4 => ?_)
  refine J.nil ?_
  refine C.seq ?_
  refine C.seq ?_
  refine C.region ?_
  refine J.fld (k := 1) rfl rfl rfl rfl rfl Tryz.runUnderlying50 rfl rfl Tryz.sizeOf48 ?_
  refine J.ldo 2 rfl rfl rfl rfl rfl Tryz.isAgg48 rfl rfl ?_
  refine J.callrl rfl rfl rfl rfl rfl Tryz.call104 (fun w h => Backward_calls w Ac d.cache.length cc)  ?_
  rintro v9 R9 ⟨ba, rfl, rfl⟩
  refine J.nil ?_
  refine C.block ?_
  refine C.rangeFunc rfl rfl Tryz.call123 ?_
  intro k l r hps has hbd hhas w1 hst
  refine (back_it l ba r Ac d.cache.length cc d.cache hc (fun j M => lastW s d.cache = lastW s (d.cache.take (d.cache.length - j)) ∧ M = [obj l (lp .ready none r), obj k (.deferred (some [])), blk ba #[.slice Ac d.cache.length cc] 48, blk b4 #[.slice none 0 0] 22, blk b3 #[vi s] 3, blk b2 #[.slice As d.secs.length cs, .slice Ac d.cache.length cc] 50]) (fun M => ∃ x A n c, lastW s d.cache = some x ∧ (∀ fp, RWS fp w (.slice Ac d.cache.length cc) d.cache → RB fp w (.slice A n c) x) ∧ M = [obj l (lp .done (some .ret) r), obj k (.deferred (some [])), blk b4 #[.slice A n c] 22]) 0 2 ?_ (by rw [hps]; rfl) ?_ (M0 := [obj l (lp .ready none r), obj k (.deferred (some [])), blk ba #[.slice Ac d.cache.length cc] 48, blk b4 #[.slice none 0 0] 22, blk b3 #[vi s] 3, blk b2 #[.slice As d.secs.length cs, .slice Ac d.cache.length cc] 50]) ⟨by simp, rfl⟩ (hst.ord [0, 1, 2, 3, 4, 5] (by decide))).mono ?_
  · rintro i M ⟨-, rfl⟩
    exact ⟨rfl, rfl⟩
  · rintro j i M u x w2 hij ⟨hpre, rfl⟩ hxi hr hw2
    obtain ⟨Au, cu, rfl, -, -, -⟩ := (hr _ hc).form
    refine (round_C (n := 0) (Φ := fun b M' => ∀ w', St No w M' w' → ∃ M'', St No w M'' w' ∧ if b then lastW s d.cache = lastW s (d.cache.take (d.cache.length - (j + 1))) ∧ M'' = [obj l (lp .ready none r), obj k (.deferred (some [])), blk ba #[.slice Ac d.cache.length cc] 48, blk b4 #[.slice none 0 0] 22, blk b3 #[vi s] 3, blk b2 #[.slice As d.secs.length cs, .slice Ac d.cache.length cc] 50] else ∃ x A n c, lastW s d.cache = some x ∧ (∀ fp, RWS fp w (.slice Ac d.cache.length cc) d.cache → RB fp w (.slice A n c) x) ∧ M'' = [obj l (lp .done (some .ret) r), obj k (.deferred (some [])), blk b4 #[.slice A n c] 22]) [] hw2 (hhas.round2 hps rfl rfl) ?_).mono ?_
    · rw [has]
      refine C.region ?_
      refine J.allocc rfl rfl rfl rfl Tryz.zeroValue90 rfl (fun b6 => ?_)
      first | refine J.stwc 0 rfl rfl rfl rfl rfl rfl Tryz.sizeOf90 (by first | rfl | assumption | simp [Value.cells, Value.oneCell']) rfl rfl ?_ | refine J.stw 0 rfl rfl rfl rfl rfl rfl Tryz.sizeOf90 (by first | rfl | assumption | simp [Value.cells, Value.oneCell']) rfl rfl ?_
      refine J.nil ?_
      refine ⟨1, rfl, ?_⟩
      rw [hbd]
      refine C.block ?_
      refine C.seq ?_
      refine C.region ?_
      refine J.fld (k := 0) rfl rfl rfl rfl rfl Tryz.runUnderlying90 rfl rfl Tryz.sizeOf3 ?_
      refine J.ldo 0 rfl rfl rfl rfl rfl Tryz.isAgg3 rfl rfl ?_
      refine J.ldo 5 rfl rfl rfl rfl rfl Tryz.isAgg3 rfl rfl ?_
      refine J.bin rfl rfl rfl rfl rfl rfl (fun w => rfl) ?_
      refine J.nil ?_
      have hsn := take_snoc hxi
      refine C.cond rfl (fun h => ?_) (fun h => ?_)
      · have h : x.1 = s := by simpa using h
        refine C.seq ?_
        refine C.region ?_
        refine J.fld (k := 1) rfl rfl rfl rfl rfl Tryz.runUnderlying90 rfl rfl Tryz.sizeOf22 ?_
        refine J.ldo 0 rfl rfl rfl rfl rfl Tryz.isAgg22 rfl rfl ?_
        first | refine J.stwc 4 rfl rfl rfl rfl rfl rfl Tryz.sizeOf22 (by first | rfl | assumption | simp [Value.cells, Value.oneCell']) rfl rfl ?_ | refine J.stw 4 rfl rfl rfl rfl rfl rfl Tryz.sizeOf22 (by first | rfl | assumption | simp [Value.cells, Value.oneCell']) rfl rfl ?_
        refine J.nil ?_
        refine C.ret ?_
        refine ⟨1, rfl, fun w' h' => ⟨_, h'.ord [1, 2, 4] (by decide), x.2, Au, x.2.length, cu, ?_, hr, rfl⟩⟩
        rw [hpre, show d.cache.length - j = i + 1 by omega, hsn, lastW_snoc, if_pos h]
      · have h : ¬ x.1 = s := by simpa using h
        refine C.skip ?_
        refine ⟨1, rfl, fun w' h' => ⟨_, h'.ord [1, 2, 3, 4, 5, 6] (by decide), ?_, rfl⟩⟩
        rw [hpre, show d.cache.length - j = i + 1 by omega, show d.cache.length - (j + 1) = i by omega, hsn, lastW_snoc, if_neg h]
    · rintro e w' ⟨b, rfl, M', h1, h2⟩
      exact ⟨b, rfl, h2 w' h1⟩
  · rintro e w' ⟨hv, h⟩
    rcases h with ⟨M, hM, hpre, rfl⟩ | ⟨M, hM, x, A, n, c, hx, hr, rfl⟩
    · refine ⟨hv, _, .ready, none, 0, hM, rfl, by simp, ?_⟩
      rw [Nat.sub_self, List.take_zero, lastW_nil] at hpre
      have hlt : s.toNat < d.secs.length := by omega
      obtain ⟨b, o, rfl, hb, hcell⟩ := hl3 (by omega)
      obtain ⟨u, hu, hr⟩ := hcell s.toNat _ (List.getElem?_eq_getElem hlt)
      have he : dkLast d s = d.secs[s.toNat] := by unfold dkLast; rw [hpre, Option.getD_none, List.getD_eq_getElem?_getD, List.getElem?_eq_getElem hlt]; rfl
      obtain ⟨Au, cu, rfl, -, -, -⟩ := hr.form
      refine C.seq ?_
      refine C.region ?_
      refine J.fld (k := 0) rfl rfl rfl rfl rfl Tryz.runUnderlying50 rfl rfl Tryz.sizeOf44 ?_
      refine J.ldo 4 rfl rfl rfl rfl rfl Tryz.isAgg44 rfl rfl ?_
      refine J.ldo 3 rfl rfl rfl rfl rfl Tryz.isAgg3 rfl rfl ?_
      first | refine J.idx1 rfl rfl rfl rfl rfl rfl Tryz.runUnderlying44 Tryz.sizeOf22 (by omega) ?_ | refine J.idx rfl rfl rfl rfl rfl rfl Tryz.runUnderlying44 Tryz.sizeOf22 (by omega) ?_
      refine J.ld rfl rfl rfl rfl rfl Tryz.isAgg22 (fun w h => cellOld h (by rw [Nat.mul_one]; exact hu)) ?_
      first | refine J.stwc 2 rfl rfl rfl rfl rfl rfl Tryz.sizeOf22 (by first | rfl | assumption | simp [Value.cells, Value.oneCell']) rfl rfl ?_ | refine J.stw 2 rfl rfl rfl rfl rfl rfl Tryz.sizeOf22 (by first | rfl | assumption | simp [Value.cells, Value.oneCell']) rfl rfl ?_
      refine J.nil ?_
      refine C.ret ?_
      exact Or.inr ⟨k, 0, rfl, rfl, fin1 rfl (RV.cell1 2 rfl Tryz.isAgg22 rfl rfl) (fun w' h => h.retV (fun fp f1 f2 => by rw [he]; exact f1.at_ (List.getElem?_eq_getElem hlt) hu))⟩
    · refine ⟨hv, _, .done, some .ret, 0, hM, rfl, by simp, ?_⟩
      exact Or.inr ⟨k, 0, rfl, rfl, fin1 rfl (RV.cell1 1 rfl Tryz.isAgg22 rfl rfl) (fun w' h => h.retV (fun fp f1 f2 => by rw [show dkLast d s = x by unfold dkLast; rw [hx]; rfl]; exact hr fp f2))⟩
/-- The same, told in the words of a world that came before. -/
theorem last_base {w0 w : World} {M : List Res} (h : St No w0 M w) (d : Dk) (sv cv : Value) (s : Int) (hs : BSA w0 sv d.secs) (hc : WSA w0 cv d.cache) (h0 : 0 ≤ s) (hsn : s < d.secs.length) : Calls Tryz.prog 81 #[.agg #[sv, cv], vi s] w (RetV w (fun v => BA w0 v (dkLast d s))) :=
  (last_calls w d sv cv s (h.bsa hs) (h.wsa hc) h0 hsn).mono fun _ _ hR => hR.mono fun v hv => RB.base h.below (hv _ (RBS.imp hs (fun _ h => h) (fun b hb => h.below.block b hb)) (RWS.imp hc (fun _ h => h) (fun b hb => h.below.block b hb)))
end Go.Proofs.YtiminmnmeknioaaGreatDoor

/- disk.GetAll. -/
set_option linter.unusedVariables false
namespace Go.Proofs.YtiminmnmeknioaaGreatDoor
open Go Go.RowKit

def lasts (d : Dk) (s : Int) (n : Nat) : List UInt8 := (List.range n).flatMap fun (i : Nat) => dkLast d (s + (i : Int))
theorem lasts_succ (d : Dk) (s : Int) (n : Nat) : lasts d s (n + 1) = lasts d s n ++ dkLast d (s + n) := by unfold lasts; rw [List.range_succ, List.flatMap_append]; simp
theorem lasts_len {d : Dk} {s : Int} (h : dkBad d = false) (h0 : 0 ≤ s) : ∀ n : Nat, s + n ≤ d.secs.length → (lasts d s n).length = 64 * n := by
  intro n
  induction n with
  | zero => intro _; rfl
  | succ n ih =>
    intro hn
    rw [lasts_succ, List.length_append, ih (by omega), dkLast_len h (by omega) (by omega)]
    omega
def dkGetAll (d : Dk) (s n : Int) : List UInt8 × Int := if dkBad d = true then ([], 9) else if roomOk d.secs.length s n = false then ([], 41) else (lasts d s n.toNat, 0)
theorem dkErr_cases (d : Dk) : (dkBad d = true ∧ dkErr d = 9) ∨ (dkBad d = false ∧ dkErr d = 0) := by
  unfold dkErr
  cases h : dkBad d
  · exact .inr ⟨rfl, rfl⟩
  · exact .inl ⟨rfl, rfl⟩
theorem GetAll_calls (w : World) (d : Dk) (sv cv : Value) (s n : Int) (hs : BSA w sv d.secs) (hc : WSA w cv d.cache) : Calls Tryz.prog 46 #[.agg #[sv, cv], vi s, vi n] w (Ret w (PBE (dkGetAll d s n).1 (dkGetAll d s n).2)) := by
  have hs0 := hs
  have hc0 := hc
  obtain ⟨As, cs, rfl, hl1, hl2, -⟩ := hs.form
  obtain ⟨Ac, cc, rfl, -, -, -⟩ := hc.form
  refine calls_of_C Tryz.func46 rfl Tryz.ntmps46 (Nat.le_of_ble_eq_true rfl) ?_
  refine C.less (L' := [(0, _), (1, _), (2, _)]) ?_ (Sub.cons rfl (Sub.cons rfl (Sub.cons rfl (Sub.nil _)))) (fun w h => h)
  refine C.seq ?_
  refine C.region ?_
  first | refine J.boxc rfl rfl rfl rfl rfl rfl (fun b3 => ?_) | refine J.box rfl rfl rfl rfl rfl (fun b3 => ?_)
  refine J.asg rfl rfl rfl rfl rfl ?_
  refine J.asg rfl rfl rfl rfl rfl ?_
  refine J.nil ?_
  refine C.seq ?_
  refine C.seq ?_
  refine C.region ?_
  refine J.ldw 0 rfl rfl rfl rfl rfl Tryz.isAgg50 rfl Tryz.sizeOf50 ?_
  refine J.call0 rfl rfl rfl rfl rfl Tryz.call49 (fun w h => Check_dk_calls w d _ _ (h.bsa hs0) (h.wsa hc0)) ?_
  refine J.asg rfl rfl rfl rfl rfl ?_
  refine J.nil ?_
  refine C.seq ?_
  refine C.region ?_
  refine J.move rfl rfl rfl rfl rfl ?_
  refine J.bin rfl rfl rfl rfl rfl rfl (fun w => rfl) ?_
  refine J.nil ?_
  rcases dkErr_cases d with ⟨hb, he⟩ | ⟨hb, he⟩
  · rw [show dkGetAll d s n = ([], 9) by unfold dkGetAll; rw [if_pos hb], he]
    refine C.cond_t rfl ?_
    refine C.seq ?_
    refine C.region ?_
    refine J.move rfl rfl rfl rfl rfl ?_
    refine J.asg rfl rfl rfl rfl rfl ?_
    refine J.asg rfl rfl rfl rfl rfl ?_
    refine J.nil ?_
    refine C.ret ?_
    exact fin2 rfl (RV.tmp rfl) (RV.tmp rfl) (fun w' h => retNilBE h)
  · obtain ⟨⟨hs1, hs2⟩, hc1, hsl, hcl⟩ := dkOk hb
    rw [he]
    refine C.cond_f rfl ?_
    refine C.skip ?_
    refine C.seq ?_
    refine C.seq ?_
    refine C.region ?_
    refine J.ldw 0 rfl rfl rfl rfl rfl Tryz.isAgg50 rfl Tryz.sizeOf50 ?_
    refine J.move rfl rfl rfl rfl rfl ?_
    refine J.move rfl rfl rfl rfl rfl ?_
    refine J.call0 rfl rfl rfl rfl rfl Tryz.call50 (fun w h => room_calls w As d.secs.length cs _ s n (by omega)) ?_
    refine J.not rfl rfl rfl rfl rfl ?_
    refine J.nil ?_
    rcases Bool.eq_false_or_eq_true (roomOk d.secs.length s n) with hr | hr
    · rw [show dkGetAll d s n = (lasts d s n.toNat, 0) by unfold dkGetAll; rw [if_neg (by rw [hb]; simp), if_neg (by rw [hr]; simp)], hr]
      have hr2 := of_decide_eq_true hr
      obtain ⟨r1, r2, r3, r4⟩ := hr2
      refine C.cond_f rfl ?_
      refine C.skip ?_
      refine C.seq ?_
      refine C.region ?_
      refine J.asg rfl rfl rfl rfl rfl ?_
      refine J.nil ?_
      refine C.seq ?_
      refine C.seq ?_
      refine C.region ?_
      refine J.move rfl rfl rfl rfl rfl ?_
      refine J.move rfl rfl rfl rfl rfl ?_
      refine J.nil ?_
      refine C.block ?_
      refine C.loop (σ := Nat × Value) (fun q => (q.1 : Int) ≤ n) (fun q => [(3, .pointer (some ⟨b3, 0, none⟩)), (1, vi s), (9, q.2), (21, vi n), (22, vi (q.1 : Int))]) (fun q => [rowR 5 1 q.2 (64 * q.1) ((lasts d s q.1).map vu8), blk b3 #[.slice As d.secs.length cs, .slice Ac d.cache.length cc] 50]) (fun q => n.toNat - q.1) (0, .slice none 0 0) r2 ?_ ?_ ?_
      · exact (Sub.cons rfl (Sub.cons rfl (Sub.cons rfl (Sub.cons rfl (Sub.cons rfl (Sub.nil _))))))
      · exact fun w h => h.nilRow _ _
      rintro ⟨i, v⟩ hi
      dsimp only at hi ⊢
      refine C.seq ?_
      refine C.region ?_
      refine J.bin rfl rfl rfl rfl rfl rfl (fun w => rfl) ?_
      refine J.nil ?_
      refine C.seq ?_
      refine C.cond rfl (fun h => ?_) (fun h => ?_)
      · have hlt : (i : Int) < n := of_decide_eq_true h
        have hl64 : (dkLast d (s + i)).length = 64 := dkLast_len hb (by omega) (by omega)
        refine C.skip ?_
        refine C.seq ?_
        refine C.block ?_
        refine C.seq ?_
        refine C.region ?_
        refine J.move rfl rfl rfl rfl rfl ?_
        refine J.asg rfl rfl rfl rfl rfl ?_
        refine J.nil ?_
        refine C.region ?_
        refine J.move rfl rfl rfl rfl rfl ?_
        refine J.ldw 1 rfl rfl rfl rfl rfl Tryz.isAgg50 rfl Tryz.sizeOf50 ?_
        refine J.move rfl rfl rfl rfl rfl ?_
        refine J.move rfl rfl rfl rfl rfl ?_
        refine J.bin rfl rfl rfl rfl rfl rfl (fun w => ra_add (by omega)) ?_
        refine J.callv rfl rfl rfl rfl rfl Tryz.call81 (fun w h => last_base h d _ _ (s + i) hs0 hc0 (by omega) (by omega))  ?_
        rintro v30 hv
        obtain ⟨Av, cv', rfl, -, -, -⟩ := hv.form
        refine J.app 0 rfl rfl rfl rfl rfl rfl Tryz.underlying22 inf5 rfl rfl rfl rfl (news := (dkLast d (s + i)).map vu8) (by simp) (fun w' h hn => srcB (h.ba hv) hn) (all_u8 _) (by omega) (fun v31 => ?_)
        refine J.asg rfl rfl rfl rfl rfl ?_
        refine J.nil ?_
        refine C.region ?_
        refine J.bin rfl rfl rfl rfl rfl rfl (fun w => ra_add (by omega)) ?_
        refine J.move rfl rfl rfl rfl rfl ?_
        refine J.nil ?_
        refine ⟨rfl, (i + 1, v31), by dsimp only; omega, by dsimp only; omega, (Sub.cons rfl (Sub.cons rfl (Sub.cons rfl (Sub.cons rfl (Sub.cons rfl (Sub.nil _)))))), fun w h => ?_⟩
        dsimp only
        rw [lasts_succ, List.map_append, show 64 * (i + 1) = 64 * i + (dkLast d (s + i)).length by omega]
        exact h
      · have hin : n.toNat = i := by have := of_decide_eq_false h; omega
        rw [hin]
        refine C.exit rfl ?_
        refine C.seq ?_
        refine C.region ?_
        refine J.move rfl rfl rfl rfl rfl ?_
        refine J.asg rfl rfl rfl rfl rfl ?_
        refine J.asg rfl rfl rfl rfl rfl ?_
        refine J.nil ?_
        refine C.ret ?_
        refine fin2 rfl (RV.tmp rfl) (RV.tmp rfl) (fun w' h => ?_)
        exact retRbE (row_rb h rfl) 0 rfl
    · rw [show dkGetAll d s n = ([], 41) by unfold dkGetAll; rw [if_neg (by rw [hb]; simp), if_pos hr], hr]
      refine C.cond_t rfl ?_
      refine C.seq ?_
      refine C.region ?_
      refine J.asg rfl rfl rfl rfl rfl ?_
      refine J.asg rfl rfl rfl rfl rfl ?_
      refine J.nil ?_
      refine C.ret ?_
      exact fin2 rfl (RV.tmp rfl) (RV.tmp rfl) (fun w' h => retNilBE h)
end Go.Proofs.YtiminmnmeknioaaGreatDoor

/- disk.PutAll. -/
set_option linter.unusedVariables false
namespace Go.Proofs.YtiminmnmeknioaaGreatDoor
open Go Go.RowKit

def dk0 : Dk := ⟨[], []⟩
def dkPutAll (d : Dk) (s : Int) (data : List UInt8) : Dk × Int := if dkBad d = true then (dk0, 9) else if roomOk d.secs.length s (nch data) = false then (dk0, 41) else if (nch data : Int) > 4096 - d.cache.length then (dk0, 51) else (dkPut d s data, 0)
theorem PDk_of {d : Dk} {v : Value} {Rs : List Res} (h : PSt d v Rs) (e : Int) : PDk d e (.tuple #[v, vi e]) Rs := by
  obtain ⟨A1, c1, A2, c2, vs, fp, rfl, rfl⟩ := h
  exact ⟨A1, c1, A2, c2, vs, fp, rfl, rfl⟩
theorem quo64 {P : Program} {w : World} {t : TypeId} (n : Nat) (h : n + 63 ≤ 9223372036854775807) : (binOp .quo t (.int .i64 ((n : Int) + 64 - 1)) (.int .i64 64)).run P w = .ok (.int .i64 (((n + 63) / 64 : Nat) : Int)) w := by
  show Result.ok (Value.int .i64 (IntKind.i64.wrap (((n : Int) + 64 - 1).tdiv 64))) w = _
  rw [Int.tdiv_eq_ediv_of_nonneg (by omega), IntWalk.i64_in _ (by omega)]
  congr 2
  omega
theorem PutAll_calls (w : World) (d : Dk) (sv cv dv : Value) (s : Int) (data : List UInt8) (hs : BSA w sv d.secs) (hc : WSA w cv d.cache) (hx : BA w dv data) (hl : data.length ≤ 140737488355328) : Calls Tryz.prog 28 #[.agg #[sv, cv], vi s, dv] w (RetL No w (PDk (dkPutAll d s data).1 (dkPutAll d s data).2)) := by
  have hs0 := hs
  have hc0 := hc
  have hx0 := hx
  obtain ⟨As, cs, rfl, hl1, hl2, -⟩ := hs.form
  obtain ⟨Ac, cc, rfl, -, -, -⟩ := hc.form
  obtain ⟨A, c, rfl, -, -, -⟩ := hx.form
  have hnc : nch data = (data.length + 63) / 64 := rfl
  refine calls_of_C Tryz.func28 rfl Tryz.ntmps28 (Nat.le_of_ble_eq_true rfl) ?_
  refine C.less (L' := [(0, _), (1, _), (2, _)]) ?_ (Sub.cons rfl (Sub.cons rfl (Sub.cons rfl (Sub.nil _)))) (fun w h => h)
  refine C.seq ?_
  refine C.region ?_
  first | refine J.boxc rfl rfl rfl rfl rfl rfl (fun b3 => ?_) | refine J.box rfl rfl rfl rfl rfl (fun b3 => ?_)
  refine J.allocc rfl rfl rfl rfl Tryz.zeroValue50 rfl (fun b6 => ?_)
  refine J.asg rfl rfl rfl rfl rfl ?_
  refine J.nil ?_
  refine C.seq ?_
  refine C.seq ?_
  refine C.region ?_
  refine J.ldw 1 rfl rfl rfl rfl rfl Tryz.isAgg50 rfl Tryz.sizeOf50 ?_
  refine J.call0 rfl rfl rfl rfl rfl Tryz.call49 (fun w h => Check_dk_calls w d _ _ (h.bsa hs0) (h.wsa hc0)) ?_
  refine J.asg rfl rfl rfl rfl rfl ?_
  refine J.nil ?_
  refine C.seq ?_
  refine C.region ?_
  refine J.move rfl rfl rfl rfl rfl ?_
  refine J.bin rfl rfl rfl rfl rfl rfl (fun w => rfl) ?_
  refine J.nil ?_
  rcases dkErr_cases d with ⟨hb, he⟩ | ⟨hb, he⟩
  · rw [show dkPutAll d s data = (dk0, 9) by unfold dkPutAll; rw [if_pos hb], he]
    refine C.cond_t rfl ?_
    refine C.seq ?_
    refine C.region ?_
    refine J.bld (pl := #[(0, 1), (1, 1)]) (cells := #[_, _]) rfl rfl rfl rfl rfl Tryz.zeroValue50 Tryz.runUnderlying50 (fun w => by kernel_rfl) rfl ?_
    refine J.move rfl rfl rfl rfl rfl ?_
    first | refine J.stwc 0 rfl rfl rfl rfl rfl rfl Tryz.sizeOf50 (by first | rfl | assumption | simp [Value.cells, Value.oneCell']) rfl rfl ?_ | refine J.stw 0 rfl rfl rfl rfl rfl rfl Tryz.sizeOf50 (by first | rfl | assumption | simp [Value.cells, Value.oneCell']) rfl rfl ?_
    refine J.asg rfl rfl rfl rfl rfl ?_
    refine J.nil ?_
    refine C.ret ?_
    exact fin2 rfl (RV.cellw 0 rfl Tryz.isAgg50 rfl Tryz.sizeOf50) (RV.tmp rfl) (fun w' h => retDkZ h)
  · obtain ⟨⟨hs1, hs2⟩, hc1, hsl, hcl⟩ := dkOk hb
    rw [he]
    refine C.cond_f rfl ?_
    refine C.skip ?_
    refine C.seq ?_
    refine C.region ?_
    refine J.move rfl rfl rfl rfl rfl ?_
    refine J.len rfl rfl rfl rfl rfl Tryz.runUnderlying22 ?_
    refine J.bin rfl rfl rfl rfl rfl rfl (fun w => ra_add (by omega)) ?_
    refine J.bin rfl rfl rfl rfl rfl rfl (fun w => ra_sub (by omega)) ?_
    refine J.bin rfl rfl rfl rfl rfl rfl (fun w => quo64 _ (by omega)) ?_
    refine J.asg rfl rfl rfl rfl rfl ?_
    refine J.nil ?_
    refine C.seq ?_
    refine C.block ?_
    refine C.seq ?_
    refine C.region ?_
    refine J.ldw 1 rfl rfl rfl rfl rfl Tryz.isAgg50 rfl Tryz.sizeOf50 ?_
    refine J.move rfl rfl rfl rfl rfl ?_
    refine J.move rfl rfl rfl rfl rfl ?_
    refine J.call0 rfl rfl rfl rfl rfl Tryz.call50 (fun w h => room_calls w As d.secs.length cs _ s _ (by omega)) ?_
    refine J.not rfl rfl rfl rfl rfl ?_
    refine J.asg rfl rfl rfl rfl rfl ?_
    refine J.nil ?_
    rw [← hnc]
    rcases Bool.eq_false_or_eq_true (roomOk d.secs.length s (nch data)) with hr | hr
    · rw [hr]
      obtain ⟨r1, r2, r3, r4⟩ := of_decide_eq_true hr
      refine C.cond_f rfl ?_
      refine C.seq ?_
      refine C.region ?_
      refine J.move rfl rfl rfl rfl rfl ?_
      refine J.fld (k := 1) rfl rfl rfl rfl rfl Tryz.runUnderlying50 rfl rfl Tryz.sizeOf48 ?_
      refine J.ldo 1 rfl rfl rfl rfl rfl Tryz.isAgg48 rfl rfl ?_
      refine J.len rfl rfl rfl rfl rfl Tryz.runUnderlying48 ?_
      refine J.bin rfl rfl rfl rfl rfl rfl (fun w => ra_sub (by omega)) ?_
      refine J.bin rfl rfl rfl rfl rfl rfl (fun w => rfl) ?_
      refine J.asg rfl rfl rfl rfl rfl ?_
      refine J.nil ?_
      refine C.cond rfl (fun h => ?_) (fun h => ?_)
      · have h := of_decide_eq_true h
        rw [show dkPutAll d s data = (dk0, 51) by unfold dkPutAll; rw [if_neg (by rw [hb]; simp), if_neg (by rw [hr]; simp), if_pos h]]
        refine C.seq ?_
        refine C.region ?_
        refine J.bld (pl := #[(0, 1), (1, 1)]) (cells := #[_, _]) rfl rfl rfl rfl rfl Tryz.zeroValue50 Tryz.runUnderlying50 (fun w => by kernel_rfl) rfl ?_
        first | refine J.stwc 0 rfl rfl rfl rfl rfl rfl Tryz.sizeOf50 (by first | rfl | assumption | simp [Value.cells, Value.oneCell']) rfl rfl ?_ | refine J.stw 0 rfl rfl rfl rfl rfl rfl Tryz.sizeOf50 (by first | rfl | assumption | simp [Value.cells, Value.oneCell']) rfl rfl ?_
        refine J.asg rfl rfl rfl rfl rfl ?_
        refine J.nil ?_
        refine C.ret ?_
        exact fin2 rfl (RV.cellw 0 rfl Tryz.isAgg50 rfl Tryz.sizeOf50) (RV.tmp rfl) (fun w' h => retDkZ h)
      · have h := of_decide_eq_false h
        rw [show dkPutAll d s data = (dkPut d s data, 0) by unfold dkPutAll; rw [if_neg (by rw [hb]; simp), if_neg (by rw [hr]; simp), if_neg h]]
        refine C.skip ?_
        refine C.seq ?_
        refine C.region ?_
        refine J.ldw 1 rfl rfl rfl rfl rfl Tryz.isAgg50 rfl Tryz.sizeOf50 ?_
        refine J.move rfl rfl rfl rfl rfl ?_
        refine J.move rfl rfl rfl rfl rfl ?_
        refine J.callrl rfl rfl rfl rfl rfl Tryz.call51 (fun w h => put_calls w d _ _ _ s data (h.bsa hs0) (h.wsa hc0) hb (h.ba hx0) r1 (by omega))  ?_
        rintro v39 R39 ⟨A1, c1, A2, c2, vs, fp, rfl, rfl⟩
        first | refine J.stwc 3 rfl rfl rfl rfl rfl rfl Tryz.sizeOf50 (by first | rfl | assumption | simp [Value.cells, Value.oneCell']) rfl rfl ?_ | refine J.stw 3 rfl rfl rfl rfl rfl rfl Tryz.sizeOf50 (by first | rfl | assumption | simp [Value.cells, Value.oneCell']) rfl rfl ?_
        refine J.asg rfl rfl rfl rfl rfl ?_
        refine J.nil ?_
        refine C.ret ?_
        refine fin2 rfl (RV.cellw 3 rfl Tryz.isAgg50 rfl Tryz.sizeOf50) (RV.tmp rfl) (fun w' h => ?_)
        exact (h.ord [0, 1, 2] (by decide)).retL (List.Sublist.refl _) ⟨A1, c1, A2, c2, vs, fp, rfl, rfl⟩
    · rw [show dkPutAll d s data = (dk0, 41) by unfold dkPutAll; rw [if_neg (by rw [hb]; simp), if_pos hr], hr]
      refine C.cond_t rfl ?_
      refine C.seq ?_
      refine C.region ?_
      refine J.bld (pl := #[(0, 1), (1, 1)]) (cells := #[_, _]) rfl rfl rfl rfl rfl Tryz.zeroValue50 Tryz.runUnderlying50 (fun w => by kernel_rfl) rfl ?_
      first | refine J.stwc 0 rfl rfl rfl rfl rfl rfl Tryz.sizeOf50 (by first | rfl | assumption | simp [Value.cells, Value.oneCell']) rfl rfl ?_ | refine J.stw 0 rfl rfl rfl rfl rfl rfl Tryz.sizeOf50 (by first | rfl | assumption | simp [Value.cells, Value.oneCell']) rfl rfl ?_
      refine J.asg rfl rfl rfl rfl rfl ?_
      refine J.nil ?_
      refine C.ret ?_
      exact fin2 rfl (RV.cellw 0 rfl Tryz.isAgg50 rfl Tryz.sizeOf50) (RV.tmp rfl) (fun w' h => retDkZ h)
end Go.Proofs.YtiminmnmeknioaaGreatDoor

/- disk.land. -/
set_option linter.unusedVariables false
namespace Go.Proofs.YtiminmnmeknioaaGreatDoor
open Go Go.RowKit

/-- The sectors when the first k writes have landed, those that are kept. -/
def landN (kp : Nat → Bool) (c : List Wr) (secs : List (List UInt8)) : Nat → List (List UInt8)
  | 0 => secs
  | k + 1 => match c[k]? with
    | some x => if kp k then (landN kp c secs k).set x.1.toNat x.2 else landN kp c secs k
    | none => landN kp c secs k
theorem landN_succ {kp : Nat → Bool} {c : List Wr} {secs : List (List UInt8)} {k : Nat} {x : Wr} (h : c[k]? = some x) : landN kp c secs (k + 1) = if kp k then (landN kp c secs k).set x.1.toNat x.2 else landN kp c secs k := by
  rw [landN, h]
theorem landN_len (kp : Nat → Bool) (c : List Wr) (secs : List (List UInt8)) : ∀ k, (landN kp c secs k).length = secs.length
  | 0 => rfl
  | k + 1 => by
    have ih := landN_len kp c secs k
    rw [landN]
    split
    · split
      · rw [List.length_set]; exact ih
      · exact ih
    · exact ih
theorem landN_64 {kp : Nat → Bool} {c : List Wr} {secs : List (List UInt8)} (hs : ∀ x ∈ secs, x.length = 64) (hc : ∀ x ∈ c, x.2.length = 64) : ∀ k, ∀ x ∈ landN kp c secs k, x.length = 64
  | 0 => hs
  | k + 1 => by
    have ih := landN_64 (kp := kp) hs hc k
    rw [landN]
    split
    · rename_i x hx
      split
      · intro y hy
        rcases List.mem_or_eq_of_mem_set hy with h | h
        · exact ih y h
        · rw [h]; exact hc x (List.mem_of_getElem? hx)
      · exact ih
    · exact ih
def dkLand (kp : Nat → Bool) (d : Dk) : Dk × Int := if dkBad d = true then (dk0, 9) else (⟨landN kp d.cache d.secs d.cache.length, []⟩, 0)
theorem land_calls (w : World) (d : Dk) (sv cv : Value) (kp : Nat → Bool) (kf : FuncId) (cap : Array Value) (hs : BSA w sv d.secs) (hc : WSA w cv d.cache) (hkc : ∀ args w, (callFunc kf args).run Tryz.prog w = .ok (.enter kf args) w)
    (hkeep : ∀ (i : Nat) (w' : World), i < d.cache.length → Below w.heap.size w w' → Calls Tryz.prog kf ((#[] : Array Value).toList ++ [vi (i : Int)] ++ cap.toList).toArray w' (Ret0 w' (.bool (kp i)))) :
    Calls Tryz.prog 52 #[.agg #[sv, cv], .func (.func kf) #[] cap] w (RetL No w (PDk (dkLand kp d).1 (dkLand kp d).2)) := by
  have hs0 := hs
  have hc0 := hc
  obtain ⟨As, cs, rfl, hl1, hl2, -⟩ := hs.form
  obtain ⟨Ac, cc, rfl, -, -, -⟩ := hc.form
  refine calls_of_C Tryz.func52 rfl Tryz.ntmps52 (Nat.le_of_ble_eq_true rfl) ?_
  refine C.less (L' := [(0, _), (1, _)]) ?_ (Sub.cons rfl (Sub.cons rfl (Sub.nil _))) (fun w h => h)
  refine C.seq ?_
  refine C.region ?_
  first | refine J.boxc rfl rfl rfl rfl rfl rfl (fun b2 => ?_) | refine J.box rfl rfl rfl rfl rfl (fun b2 => ?_)
  refine J.allocc rfl rfl rfl rfl Tryz.zeroValue50 rfl (fun b4 => ?_)
  refine J.asg rfl rfl rfl rfl rfl ?_
  refine J.nil ?_
  refine C.seq ?_
  refine C.seq ?_
  refine C.region ?_
  refine J.ldw 1 rfl rfl rfl rfl rfl Tryz.isAgg50 rfl Tryz.sizeOf50 ?_
  refine J.call0 rfl rfl rfl rfl rfl Tryz.call49 (fun w h => Check_dk_calls w d _ _ (h.bsa hs0) (h.wsa hc0)) ?_
  refine J.asg rfl rfl rfl rfl rfl ?_
  refine J.nil ?_
  refine C.seq ?_
  refine C.region ?_
  refine J.move rfl rfl rfl rfl rfl ?_
  refine J.bin rfl rfl rfl rfl rfl rfl (fun w => rfl) ?_
  refine J.nil ?_
  rcases dkErr_cases d with ⟨hb, he⟩ | ⟨hb, he⟩
  · rw [show dkLand kp d = (dk0, 9) by unfold dkLand; rw [if_pos hb], he]
    refine C.cond_t rfl ?_
    refine C.seq ?_
    refine C.region ?_
    refine J.bld (pl := #[(0, 1), (1, 1)]) (cells := #[_, _]) rfl rfl rfl rfl rfl Tryz.zeroValue50 Tryz.runUnderlying50 (fun w => by kernel_rfl) rfl ?_
    refine J.move rfl rfl rfl rfl rfl ?_
    first | refine J.stwc 0 rfl rfl rfl rfl rfl rfl Tryz.sizeOf50 (by first | rfl | assumption | simp [Value.cells, Value.oneCell']) rfl rfl ?_ | refine J.stw 0 rfl rfl rfl rfl rfl rfl Tryz.sizeOf50 (by first | rfl | assumption | simp [Value.cells, Value.oneCell']) rfl rfl ?_
    refine J.asg rfl rfl rfl rfl rfl ?_
    refine J.nil ?_
    refine C.ret ?_
    exact fin2 rfl (RV.cellw 0 rfl Tryz.isAgg50 rfl Tryz.sizeOf50) (RV.tmp rfl) (fun w' h => retDkZ h)
  · obtain ⟨⟨hs1, hs2⟩, hc1, hsl, hcl⟩ := dkOk hb
    rw [show dkLand kp d = (⟨landN kp d.cache d.secs d.cache.length, []⟩, 0) by unfold dkLand; rw [if_neg (by rw [hb]; simp)], he]
    refine C.cond_f rfl ?_
    refine C.skip ?_
    refine C.seq ?_
    refine C.region ?_
    refine J.ldw 1 rfl rfl rfl rfl rfl Tryz.isAgg50 rfl Tryz.sizeOf50 ?_
    refine J.callrl rfl rfl rfl rfl rfl Tryz.call87 (fun w h => clone_calls w d _ _ (h.bsa hs0) (h.wsa hc0) hb)  ?_
    rintro v17 R17 ⟨A1, c1, A2, c2, vs, us, fp, hul, rfl, rfl⟩
    refine J.allocc rfl rfl rfl rfl Tryz.zeroValue50 rfl (fun b7 => ?_)
    first | refine J.stwc 0 rfl rfl rfl rfl rfl rfl Tryz.sizeOf50 (by first | rfl | assumption | simp [Value.cells, Value.oneCell']) rfl rfl ?_ | refine J.stw 0 rfl rfl rfl rfl rfl rfl Tryz.sizeOf50 (by first | rfl | assumption | simp [Value.cells, Value.oneCell']) rfl rfl ?_
    refine J.nil ?_
    refine C.seq ?_
    refine C.seq ?_
    refine C.region ?_
    refine J.fld (k := 1) rfl rfl rfl rfl rfl Tryz.runUnderlying50 rfl rfl Tryz.sizeOf48 ?_
    refine J.ldo 0 rfl rfl rfl rfl rfl Tryz.isAgg48 rfl rfl ?_
    refine J.len rfl rfl rfl rfl rfl Tryz.runUnderlying48 ?_
    refine J.move rfl rfl rfl rfl rfl ?_
    refine J.nil ?_
    refine C.block ?_
    refine C.fact (p := vs.length = d.secs.length) (fun w h => (h.get 2 rfl).1) ?_
    intro hvl
    refine C.loop (σ := Nat) (fun i => i ≤ d.cache.length) (fun i => [(1, .func (.func kf) #[] cap), (4, .pointer (some ⟨b4, 0, none⟩)), (7, .pointer (some ⟨b7, 0, none⟩)), (19, .slice A2 d.cache.length c2), (20, vi (d.cache.length : Int)), (21, vi (i : Int))]) (fun i => [gR 5 vs (landN kp d.cache d.secs i), blk b7 #[.slice A1 d.secs.length c1, .slice A2 d.cache.length c2] 50, rowR 22 1 (.slice A1 d.secs.length c1) d.secs.length vs, rowR 90 2 (.slice A2 d.cache.length c2) d.cache.length (wcells d.cache us), mR fp us (d.cache.map (·.2)), blk b4 #[.slice none 0 0, .slice none 0 0] 50]) (fun i => d.cache.length - i) 0 (Nat.zero_le _) ?_ ?_ ?_
    · exact (Sub.cons rfl (Sub.cons rfl (Sub.cons rfl (Sub.cons rfl (Sub.cons rfl (Sub.cons rfl (Sub.nil _)))))))
    · exact fun w h => h.ord [2, 0, 1, 3, 4, 5] (by decide)
    intro i hi
    dsimp only at hi ⊢
    refine C.seq ?_
    refine C.region ?_
    refine J.bin rfl rfl rfl rfl rfl rfl (fun w => rfl) ?_
    refine J.nil ?_
    refine C.seq ?_
    refine C.cond rfl (fun h => ?_) (fun h => ?_)
    · have hlt : i < d.cache.length := by have := of_decide_eq_true h; omega
      obtain ⟨u, hu⟩ : ∃ u, us[i]? = some u := ⟨_, List.getElem?_eq_getElem (by omega)⟩
      obtain ⟨x, hx⟩ : ∃ x, d.cache[i]? = some x := ⟨_, List.getElem?_eq_getElem hlt⟩
      obtain ⟨hx0, hx1, hx64⟩ := hcl x (List.mem_of_getElem? hx)
      refine C.fact (fun w h => row_some (h.get 3 rfl) (by omega)) ?_
      rintro ⟨bw, rfl⟩
      refine C.fact (fun w h => row_some (h.get 2 rfl) (by omega)) ?_
      rintro ⟨bs, rfl⟩
      refine C.fact (p := ∃ A c, u = .slice A x.2.length c) (fun w h => by
        obtain ⟨A, c, e, _⟩ := ((h.get 4 rfl).2 i u x.2 hu (by rw [List.getElem?_map, hx]; rfl)).form
        exact ⟨A, c, e⟩) ?_
      rintro ⟨Au, cu, rfl⟩
      obtain ⟨vj, hvj⟩ : ∃ v, vs[x.1.toNat]? = some v := ⟨_, List.getElem?_eq_getElem (by omega)⟩
      obtain ⟨y, hy⟩ : ∃ y, (landN kp d.cache d.secs i)[x.1.toNat]? = some y := ⟨_, List.getElem?_eq_getElem (by rw [landN_len]; omega)⟩
      have hy64 : y.length = 64 := landN_64 hsl (fun x hx => (hcl x hx).2.2) i y (List.mem_of_getElem? hy)
      refine C.skip ?_
      refine C.seq ?_
      refine C.block ?_
      refine C.seq ?_
      refine C.region ?_
      refine J.move rfl rfl rfl rfl rfl ?_
      first | refine J.idxn rfl rfl rfl rfl rfl rfl Tryz.runUnderlying48 Tryz.sizeOf90 (by omega) ?_ | refine J.idx rfl rfl rfl rfl rfl rfl Tryz.runUnderlying48 Tryz.sizeOf90 (by omega) ?_
      refine J.ldn (cs := [_, _]) rfl rfl rfl rfl rfl Tryz.isAgg90 Tryz.sizeOf90 (fun w h => cells2 (by rw [Nat.zero_add]; exact h.rcell 3 rfl (wcells_get1 hul hx)) (by rw [Nat.zero_add]; exact h.rcell 3 rfl (wcells_get2 hul hlt hu))) ?_
      refine J.allocc rfl rfl rfl rfl Tryz.zeroValue90 rfl (fun b9 => ?_)
      refine J.asg rfl rfl rfl rfl rfl ?_
      first | refine J.stwc 0 rfl rfl rfl rfl rfl rfl Tryz.sizeOf90 (by first | rfl | assumption | simp [Value.cells, Value.oneCell']) rfl rfl ?_ | refine J.stw 0 rfl rfl rfl rfl rfl rfl Tryz.sizeOf90 (by first | rfl | assumption | simp [Value.cells, Value.oneCell']) rfl rfl ?_
      refine J.nil ?_
      refine C.seq ?_
      refine C.region ?_
      refine J.move rfl rfl rfl rfl rfl ?_
      refine J.move rfl rfl rfl rfl rfl ?_
      refine J.callf0 rfl rfl rfl rfl rfl rfl hkc (fun w h => hkeep i w hlt h.below) ?_
      refine J.nil ?_
      refine C.cond rfl (fun hk => ?_) (fun hk => ?_)
      · refine C.ex (fun q : Nat × Nat × Array Value => [blk q.1 q.2.2 5, gX 5 x.1.toNat vs (landN kp d.cache d.secs i), blk b9 #[vi x.1, .slice Au x.2.length cu] 90, blk b7 #[.slice (some ⟨bs, 0, none⟩) d.secs.length c1, .slice (some ⟨bw, 0, none⟩) d.cache.length c2] 50, rowR 22 1 (.slice (some ⟨bs, 0, none⟩) d.secs.length c1) d.secs.length vs, rowR 90 2 (.slice (some ⟨bw, 0, none⟩) d.cache.length c2) d.cache.length (wcells d.cache us), mR fp us (d.cache.map (·.2)), blk b4 #[.slice none 0 0, .slice none 0 0] 50]) _ (fun w h => (h.ord [1, 0, 2, 3, 4, 5, 6] (by decide)).gopen hvj hy (by omega)) ?_
        rintro ⟨gb, gc, gcur⟩ ⟨rfl, hg1, hg2, hg3, hg4⟩
        dsimp only at hg1 hg2 hg3 hg4 ⊢
        refine C.regionD0 8 (by kernel_rfl) ?_
        refine JD.take 0 rfl rfl rfl rfl (by kernel_rfl) (fun w h => h) (R.fld (k := 0) rfl rfl Tryz.runUnderlying50 rfl rfl Tryz.sizeOf44) ?_
        refine JD.take 1 rfl rfl rfl rfl (by kernel_rfl) (fun w h => h) (R.ld rfl rfl Tryz.isAgg44 (fun w h => cellL h 3 rfl rfl)) ?_
        refine JD.take 2 rfl rfl rfl rfl (by kernel_rfl) (fun w h => h) (R.fld (k := 0) rfl rfl Tryz.runUnderlying90 rfl rfl Tryz.sizeOf3) ?_
        refine JD.take 3 rfl rfl rfl rfl (by kernel_rfl) (fun w h => h) (R.ld rfl rfl Tryz.isAgg3 (fun w h => cellL h 2 rfl rfl)) ?_
        refine JD.take 4 rfl rfl rfl rfl (by kernel_rfl) (fun w h => h) (by first | exact (R.idx1 rfl rfl rfl Tryz.runUnderlying44 Tryz.sizeOf22 (by omega)) | exact (R.idx rfl rfl rfl Tryz.runUnderlying44 Tryz.sizeOf22 (by omega))) ?_
        refine JD.take 6 rfl rfl rfl rfl (by kernel_rfl) (fun w h => h) (R.fld (k := 1) rfl rfl Tryz.runUnderlying90 rfl rfl Tryz.sizeOf22) ?_
        refine JD.take 7 rfl rfl rfl rfl (by kernel_rfl) (fun w h => h) (R.ld rfl rfl Tryz.isAgg22 (fun w h => cellL h 2 rfl rfl)) ?_
        refine JD.take 5 rfl rfl rfl rfl (by kernel_rfl) (fun w h => h) (R.ld rfl rfl Tryz.isAgg22 (fun w h => by rw [Nat.zero_add, Nat.mul_one]; exact h.rcell 4 rfl hvj)) ?_
        refine JD.step 8 rfl (by kernel_rfl) ?_
        refine J.copy 0 rfl rfl rfl rfl rfl rfl Tryz.underlying22 (inf_size inf5) rfl (news := x.2.map vu8) (by rw [List.length_map, hx64, hy64]; rfl) (fun w' h hn => srcB ((h.get 6 rfl).2 i _ x.2 hu (by rw [List.getElem?_map, hx]; rfl)) hn) (by rw [List.length_map]; show 0 + _ ≤ gcur.size; omega) (all_u8 _) ?_
        refine J.nil ⟨(fun h => by cases h), ?_⟩
        refine JD.done (by kernel_rfl) ?_
        refine C.region ?_
        refine J.bin rfl rfl rfl rfl rfl rfl (fun w => ra_add (by omega)) ?_
        refine J.move rfl rfl rfl rfl rfl ?_
        refine J.nil ?_
        refine ⟨rfl, i + 1, hlt, by omega, (Sub.cons rfl (Sub.cons rfl (Sub.cons rfl (Sub.cons rfl (Sub.cons rfl (Sub.cons rfl (Sub.nil _))))))), fun w h => ?_⟩
        rw [landN_succ hx, if_pos hk]
        have hvj2 : vs[x.1.toNat]? = some (.slice (some ⟨gb, 0, none⟩) x.2.length gc) := by rw [hx64, ← hy64]; exact hvj
        refine (h.gclose hvj2 (by omega) hg2 ?_ ?_).ord [0, 2, 3, 4, 5, 6] (by decide)
        · rw [List.size_toArray, List.length_append, List.length_append, List.length_take, List.length_drop, List.length_map, Array.length_toList]; omega
        · rw [List.take_zero, List.nil_append, List.take_left' (by rw [List.length_map])]
      · refine C.skip ?_
        refine C.region ?_
        refine J.bin rfl rfl rfl rfl rfl rfl (fun w => ra_add (by omega)) ?_
        refine J.move rfl rfl rfl rfl rfl ?_
        refine J.nil ?_
        exact ⟨rfl, i + 1, hlt, by omega, (Sub.cons rfl (Sub.cons rfl (Sub.cons rfl (Sub.cons rfl (Sub.cons rfl (Sub.cons rfl (Sub.nil _))))))), fun w h => by rw [landN_succ hx, if_neg (by rw [hk]; simp)]; exact h.ord [1, 2, 3, 4, 5, 6] (by decide)⟩
    · have hge : i = d.cache.length := by have := of_decide_eq_false h; omega
      subst hge
      refine C.exit rfl ?_
      refine C.seq ?_
      refine C.region ?_
      refine J.fld (k := 1) rfl rfl rfl rfl rfl Tryz.runUnderlying50 rfl rfl Tryz.sizeOf48 ?_
      refine J.st1 1 rfl rfl rfl rfl rfl rfl Tryz.sizeOf48 (by first | rfl | assumption | simp [Value.cells, Value.oneCell']) rfl rfl rfl ?_
      refine J.nil ?_
      refine C.seq ?_
      refine C.region ?_
      refine J.ldw 1 rfl rfl rfl rfl rfl Tryz.isAgg50 rfl Tryz.sizeOf50 ?_
      first | refine J.stwc 5 rfl rfl rfl rfl rfl rfl Tryz.sizeOf50 (by first | rfl | assumption | simp [Value.cells, Value.oneCell']) rfl rfl ?_ | refine J.stw 5 rfl rfl rfl rfl rfl rfl Tryz.sizeOf50 (by first | rfl | assumption | simp [Value.cells, Value.oneCell']) rfl rfl ?_
      refine J.asg rfl rfl rfl rfl rfl ?_
      refine J.nil ?_
      refine C.ret ?_
      refine fin2 rfl (RV.cellw 5 rfl Tryz.isAgg50 rfl Tryz.sizeOf50) (RV.tmp rfl) (fun w' h => ?_)
      refine ((nilRws h).ord [3, 1, 0] (by decide)).retL (List.Sublist.refl _) ⟨A1, c1, none, 0, vs, fun _ => False, ?_, ?_⟩
      · rw [landN_len]; rfl
      · rw [landN_len]; rfl
end Go.Proofs.YtiminmnmeknioaaGreatDoor

/- disk.Flush, disk.Crash. -/
set_option linter.unusedVariables false
namespace Go.Proofs.YtiminmnmeknioaaGreatDoor
open Go Go.RowKit

/-! Slices of truth values. -/
def isT (_ : World) (x : Bool) (cs : List Value) : Prop := cs = [.bool x]
def RT (fp : Nat → Prop) (w : World) (v : Value) (xs : List Bool) : Prop := RSl 1 isT fp w v xs
abbrev TA (w : World) (v : Value) (xs : List Bool) : Prop := RT (Old w) w v xs
section
variable {mu fp fp' : Nat → Prop} {w w' w0 : World} {v : Value} {xs : List Bool} {M : List Res}
theorem RT.imp (h : RT fp w v xs) (hf : ∀ b, fp b → fp' b) (hc : ∀ b, fp b → w'.heap[b]? = w.heap[b]?) : RT fp' w' v xs := RSl.imp h hf hc fun _ _ h => h
theorem RT.later (h : TA w v xs) (hb : Below w.heap.size w w') : TA w' v xs := RT.imp h (fun b hb' => Nat.lt_of_lt_of_le hb' hb.size) (fun b hb' => hb.block b hb')
theorem St.ta (h : St No w0 M w) (hx : TA w0 v xs) : TA w v xs := hx.later h.below
theorem RT.form (h : RT fp w v xs) : ∃ A c, v = .slice A xs.length c ∧ xs.length ≤ c ∧ c ≤ 9223372036854775807 ∧ (0 < xs.length → ∃ b o, A = some ⟨b, o, none⟩ ∧ fp b ∧ ∀ j x, xs[j]? = some x → w.cell? ⟨b, o + j, none⟩ = some (.bool x)) := by
  obtain ⟨A, n, c, rfl, rfl, h1, h2, h3⟩ := h
  refine ⟨A, c, rfl, h1, h2, fun hn => ?_⟩
  obtain ⟨b, o, hA, hb, hc⟩ := h3 hn
  refine ⟨b, o, hA, hb, fun j x hx => ?_⟩
  obtain ⟨cs, _, rfl, hcs⟩ := hc j x hx
  have := hcs 0 _ rfl
  simpa using this
theorem RT.mk {A : Option Addr} {n c : Nat} (hl : xs.length = n) (h1 : n ≤ c) (h2 : c ≤ 9223372036854775807) (h3 : 0 < n → ∃ b o, A = some ⟨b, o, none⟩ ∧ fp b ∧ ∀ j x, xs[j]? = some x → w.cell? ⟨b, o + j, none⟩ = some (.bool x)) : RT fp w (.slice A n c) xs := by
  refine ⟨A, n, c, rfl, hl, h1, h2, fun hn => ?_⟩
  obtain ⟨b, o, hA, hb, hc⟩ := h3 hn
  exact ⟨b, o, hA, hb, fun j x hx => ⟨[.bool x], rfl, rfl, fun i u hu => by
    cases i with
    | zero => simp only [List.getElem?_cons_zero, Option.some.injEq] at hu; subst hu; simpa using hc j x hx
    | succ i => simp at hu⟩⟩
end
theorem flushk_calls (w : World) (i : Int) : Calls Tryz.prog 80 #[vi i] w (Ret0 w (.bool true)) := by
  refine calls_of_C Tryz.func80 rfl Tryz.ntmps80 (Nat.le_of_ble_eq_true rfl) ?_
  refine C.less (L' := [(0, _)]) ?_ (Sub.cons rfl (Sub.nil _)) (fun w h => h)
  refine C.seq ?_
  refine C.region ?_
  refine J.asg rfl rfl rfl rfl rfl ?_
  refine J.nil ?_
  refine C.seq ?_
  refine C.region ?_
  refine J.asg rfl rfl rfl rfl rfl ?_
  refine J.nil ?_
  refine C.ret ?_
  exact fin1 rfl (RV.tmp rfl) (fun w' h => h.ret0)
theorem Flush_calls (w : World) (d : Dk) (sv cv : Value) (hs : BSA w sv d.secs) (hc : WSA w cv d.cache) : Calls Tryz.prog 43 #[.agg #[sv, cv]] w (RetL No w (PDk (dkLand (fun _ => true) d).1 (dkLand (fun _ => true) d).2)) := by
  have hs0 := hs
  have hc0 := hc
  obtain ⟨As, cs, rfl, -, -, -⟩ := hs.form
  obtain ⟨Ac, cc, rfl, -, -, -⟩ := hc.form
  refine calls_of_C Tryz.func43 rfl Tryz.ntmps43 (Nat.le_of_ble_eq_true rfl) ?_
  refine C.less (L' := [(0, _)]) ?_ (Sub.cons rfl (Sub.nil _)) (fun w h => h)
  refine C.seq ?_
  refine C.region ?_
  first | refine J.boxc rfl rfl rfl rfl rfl rfl (fun b1 => ?_) | refine J.box rfl rfl rfl rfl rfl (fun b1 => ?_)
  refine J.allocc rfl rfl rfl rfl Tryz.zeroValue50 rfl (fun b2 => ?_)
  refine J.asg rfl rfl rfl rfl rfl ?_
  refine J.nil ?_
  refine C.seq ?_
  refine C.region ?_
  refine J.ldw 1 rfl rfl rfl rfl rfl Tryz.isAgg50 rfl Tryz.sizeOf50 ?_
  refine J.callrl rfl rfl rfl rfl rfl Tryz.call52 (fun w h => land_calls w d _ _ (fun _ => true) 80 #[] (h.bsa hs0) (h.wsa hc0) Tryz.call80 (fun i w' _ _ => flushk_calls w' i))  ?_
  rintro v5 R5 ⟨A1, c1, A2, c2, vs, fp, rfl, rfl⟩
  refine J.ext rfl rfl rfl rfl rfl rfl ?_
  refine J.ext rfl rfl rfl rfl rfl rfl ?_
  first | refine J.stwc 3 rfl rfl rfl rfl rfl rfl Tryz.sizeOf50 (by first | rfl | assumption | simp [Value.cells, Value.oneCell']) rfl rfl ?_ | refine J.stw 3 rfl rfl rfl rfl rfl rfl Tryz.sizeOf50 (by first | rfl | assumption | simp [Value.cells, Value.oneCell']) rfl rfl ?_
  refine J.asg rfl rfl rfl rfl rfl ?_
  refine J.nil ?_
  refine C.ret ?_
  exact fin2 rfl (RV.cellw 3 rfl Tryz.isAgg50 rfl Tryz.sizeOf50) (RV.tmp rfl) (fun w' h => (h.ord [0, 1, 2] (by decide)).retL (List.Sublist.refl _) ⟨A1, c1, A2, c2, vs, fp, rfl, rfl⟩)
theorem crashk_calls (w : World) (b : Nat) (kv : Value) (keep : List Bool) (i : Nat) (hb : w.heap[b]? = some (.cells #[kv] 65 (0, 0))) (hk : TA w kv keep) : Calls Tryz.prog 53 #[vi (i : Int), .pointer (some ⟨b, 0, none⟩)] w (Ret0 w (.bool (keep.getD i false))) := by
  obtain ⟨A, c, rfl, h1, h2, h3⟩ := hk.form
  refine calls_of_C Tryz.func53 rfl Tryz.ntmps53 (Nat.le_of_ble_eq_true rfl) ?_
  refine C.less (L' := [(0, _), (1, _)]) ?_ (Sub.cons rfl (Sub.cons rfl (Sub.nil _))) (fun w h => h)
  refine C.seq ?_
  refine C.region ?_
  refine J.asg rfl rfl rfl rfl rfl ?_
  refine J.nil ?_
  refine C.seq ?_
  refine C.region ?_
  refine J.move rfl rfl rfl rfl rfl ?_
  refine J.ld rfl rfl rfl rfl rfl Tryz.isAgg65 (fun w' h => by rw [World.cell?, h.below.block b (heap_lt hb), hb]; rfl) ?_
  refine J.len rfl rfl rfl rfl rfl Tryz.runUnderlying65 ?_
  refine J.bin rfl rfl rfl rfl rfl rfl (fun w => rfl) ?_
  refine J.move rfl rfl rfl rfl rfl ?_
  rcases Decidable.em ((i : Int) < keep.length) with e1 | e1
  · have hlt : i < keep.length := by omega
    obtain ⟨bk, o, rfl, hbk, hcell⟩ := h3 (by omega)
    have hki : keep.getD i false = keep[i] := by rw [List.getD_eq_getElem?_getD, List.getElem?_eq_getElem hlt]; rfl
    rw [dec_t e1, hki]
    refine J.want rfl rfl rfl rfl ?_
    refine J.ld rfl rfl rfl rfl rfl Tryz.isAgg65 (fun w' h => by rw [World.cell?, h.below.block b (heap_lt hb), hb]; rfl) ?_
    refine J.want rfl rfl rfl rfl ?_
    refine J.move rfl rfl rfl rfl rfl ?_
    refine J.want rfl rfl rfl rfl ?_
    first | refine J.idx1 rfl rfl rfl rfl rfl rfl Tryz.runUnderlying65 Tryz.sizeOf4 (by omega) ?_ | refine J.idx rfl rfl rfl rfl rfl rfl Tryz.runUnderlying65 Tryz.sizeOf4 (by omega) ?_
    refine J.want rfl rfl rfl rfl ?_
    refine J.ld rfl rfl rfl rfl rfl Tryz.isAgg4 (fun w' h => cellOld h (hcell i _ (List.getElem?_eq_getElem hlt))) ?_
    refine J.pick rfl rfl rfl rfl rfl rfl ?_
    refine J.asg rfl rfl rfl rfl rfl ?_
    refine J.nil ?_
    refine C.ret ?_
    exact fin1 rfl (RV.tmp rfl) (fun w' h => h.ret0)
  · have hki : keep.getD i false = false := by rw [List.getD_eq_getElem?_getD, List.getElem?_eq_none (by omega)]; rfl
    rw [dec_f e1, hki]
    refine J.pass rfl rfl rfl rfl rfl (by intro h; cases h) ?_
    refine J.pass rfl rfl rfl rfl rfl (by intro h; cases h) ?_
    refine J.pass rfl rfl rfl rfl rfl (by intro h; cases h) ?_
    refine J.pass rfl rfl rfl rfl rfl (by intro h; cases h) ?_
    refine J.pick rfl rfl rfl rfl rfl rfl ?_
    refine J.asg rfl rfl rfl rfl rfl ?_
    refine J.nil ?_
    refine C.ret ?_
    exact fin1 rfl (RV.tmp rfl) (fun w' h => h.ret0)
theorem Crash_calls (w : World) (d : Dk) (sv cv kv : Value) (keep : List Bool) (hs : BSA w sv d.secs) (hc : WSA w cv d.cache) (hk : TA w kv keep) : Calls Tryz.prog 29 #[.agg #[sv, cv], kv] w (RetL No w (PDk (dkLand (fun i => keep.getD i false) d).1 (dkLand (fun i => keep.getD i false) d).2)) := by
  have hs0 := hs
  have hc0 := hc
  have hk0 := hk
  obtain ⟨As, cs, rfl, -, -, -⟩ := hs.form
  obtain ⟨Ac, cc, rfl, -, -, -⟩ := hc.form
  obtain ⟨Ak, ck, rfl, -, -, -⟩ := hk.form
  refine calls_of_C Tryz.func29 rfl Tryz.ntmps29 (Nat.le_of_ble_eq_true rfl) ?_
  refine C.less (L' := [(0, _), (1, _)]) ?_ (Sub.cons rfl (Sub.cons rfl (Sub.nil _))) (fun w h => h)
  refine C.seq ?_
  refine C.region ?_
  first | refine J.boxc rfl rfl rfl rfl rfl rfl (fun b2 => ?_) | refine J.box rfl rfl rfl rfl rfl (fun b2 => ?_)
  first | refine J.boxc rfl rfl rfl rfl rfl rfl (fun b3 => ?_) | refine J.box rfl rfl rfl rfl rfl (fun b3 => ?_)
  refine J.allocc rfl rfl rfl rfl Tryz.zeroValue50 rfl (fun b4 => ?_)
  refine J.asg rfl rfl rfl rfl rfl ?_
  refine J.nil ?_
  refine C.seq ?_
  refine C.region ?_
  refine J.ldw 2 rfl rfl rfl rfl rfl Tryz.isAgg50 rfl Tryz.sizeOf50 ?_
  refine J.mkfn2 rfl rfl rfl rfl rfl rfl ?_
  refine J.callrl rfl rfl rfl rfl rfl Tryz.call52 (fun w h => land_calls w d _ _ (fun i => keep.getD i false) 53 _ (h.bsa hs0) (h.wsa hc0) Tryz.call53 (fun i w' _ hb => crashk_calls w' b3 _ keep i ((hb.block b3 (h.bd 1 rfl rfl).2).trans (h.get 1 rfl)) ((h.ta hk0).later hb)))  ?_
  rintro v8 R8 ⟨A1, c1, A2, c2, vs, fp, rfl, rfl⟩
  refine J.ext rfl rfl rfl rfl rfl rfl ?_
  refine J.ext rfl rfl rfl rfl rfl rfl ?_
  first | refine J.stwc 3 rfl rfl rfl rfl rfl rfl Tryz.sizeOf50 (by first | rfl | assumption | simp [Value.cells, Value.oneCell']) rfl rfl ?_ | refine J.stw 3 rfl rfl rfl rfl rfl rfl Tryz.sizeOf50 (by first | rfl | assumption | simp [Value.cells, Value.oneCell']) rfl rfl ?_
  refine J.asg rfl rfl rfl rfl rfl ?_
  refine J.nil ?_
  refine C.ret ?_
  exact fin2 rfl (RV.cellw 3 rfl Tryz.isAgg50 rfl Tryz.sizeOf50) (RV.tmp rfl) (fun w' h => (h.ord [0, 1, 2] (by decide)).retL (List.Sublist.refl _) ⟨A1, c1, A2, c2, vs, fp, rfl, rfl⟩)
end Go.Proofs.YtiminmnmeknioaaGreatDoor

/- ref03.New, Check. -/
set_option linter.unusedVariables false
namespace Go.Proofs.YtiminmnmeknioaaGreatDoor
open Go Go.RowKit

/-- The page's disk in memory of the call's own. -/
def PRk (d : Dk) (e : Int) : Value → List Res → Prop := fun v Rs => ∃ A1 c1 A2 c2 fp1 fp2, Rs = [rbsR fp1 (.slice A1 d.secs.length c1) d.secs, rwsR fp2 (.slice A2 d.cache.length c2) d.cache] ∧ v = .tuple #[.agg #[.slice A1 d.secs.length c1, .slice A2 d.cache.length c2], vi e]
theorem nilRbs {mu : Nat → Prop} {w0 w : World} {M : List Res} (h : St mu w0 M w) : St mu w0 (rbsR (fun _ => False) (.slice none 0 0) [] :: M) w :=
  h.grow (Below.refl _ w) RBS.nil (fun b hb => hb.elim)
theorem retRkZ {w w' : World} {M : List Res} {e : Int} (h : St No w M w') : RetL No w (PRk ⟨[], []⟩ e) (.returned (.tuple #[.agg #[.slice none 0 0, .slice none 0 0], vi e])) w' :=
  (nilRbs (nilRws h)).retL (Rs := [_, _]) (((List.nil_sublist _).cons_cons _).cons_cons _) ⟨none, 0, none, 0, _, _, rfl, rfl⟩
theorem retRk {w w' : World} {M : List Res} {e : Int} {d : Dk} {A1 A2 : Option Addr} {n m c1 c2 : Nat} {fp1 fp2 : Nat → Prop} (hn : d.secs.length = n) (hm : d.cache.length = m) (h : St No w (rbsR fp1 (.slice A1 n c1) d.secs :: rwsR fp2 (.slice A2 m c2) d.cache :: M) w') : RetL No w (PRk d e) (.returned (.tuple #[.agg #[.slice A1 n c1, .slice A2 m c2], vi e])) w' := by
  subst hn hm
  exact h.retL (Rs := [_, _]) (((List.nil_sublist _).cons_cons _).cons_cons _) ⟨A1, c1, A2, c2, fp1, fp2, rfl, rfl⟩
theorem rNew_calls (w : World) (n : Int) : Calls Tryz.prog 30 #[vi n] w (RetL No w (PRk (dkNew n).1 (dkNew n).2)) := by
  refine calls_of_C Tryz.func30 rfl Tryz.ntmps30 (Nat.le_of_ble_eq_true rfl) ?_
  refine C.less (L' := [(0, _)]) ?_ (Sub.cons rfl (Sub.nil _)) (fun w h => h)
  refine C.seq ?_
  refine C.region ?_
  refine J.allocc rfl rfl rfl rfl Tryz.zeroValue47 rfl (fun b2 => ?_)
  refine J.asg rfl rfl rfl rfl rfl ?_
  refine J.nil ?_
  refine C.seq ?_
  refine C.seq ?_
  refine C.region ?_
  refine J.move rfl rfl rfl rfl rfl ?_
  refine J.bin rfl rfl rfl rfl rfl rfl (fun w => rfl) ?_
  refine J.move rfl rfl rfl rfl rfl ?_
  rcases Decidable.em (n < 1) with h1 | h1
  · have e : dkNew n = (⟨[], []⟩, 4) := by unfold dkNew; rw [if_pos (.inl h1)]
    rw [e, dec_t h1]
    refine J.pass rfl rfl rfl rfl rfl (by intro h; cases h) ?_
    refine J.pass rfl rfl rfl rfl rfl (by intro h; cases h) ?_
    refine J.pick rfl rfl rfl rfl rfl rfl ?_
    refine J.nil ?_
    refine C.cond_t rfl ?_
    refine C.seq ?_
    refine C.region ?_
    refine J.bld (pl := #[(0, 1), (1, 1)]) (cells := #[_, _]) rfl rfl rfl rfl rfl Tryz.zeroValue47 Tryz.runUnderlying47 (fun w => by kernel_rfl) rfl ?_
    first | refine J.stwc 0 rfl rfl rfl rfl rfl rfl Tryz.sizeOf47 (by first | rfl | assumption | simp [Value.cells, Value.oneCell']) rfl rfl ?_ | refine J.stw 0 rfl rfl rfl rfl rfl rfl Tryz.sizeOf47 (by first | rfl | assumption | simp [Value.cells, Value.oneCell']) rfl rfl ?_
    refine J.asg rfl rfl rfl rfl rfl ?_
    refine J.nil ?_
    refine C.ret ?_
    exact fin2 rfl (RV.cellw 0 rfl Tryz.isAgg47 rfl Tryz.sizeOf47) (RV.tmp rfl) (fun w' h => retRkZ h)
  · rw [dec_f h1]
    refine J.want rfl rfl rfl rfl ?_
    refine J.move rfl rfl rfl rfl rfl ?_
    refine J.want rfl rfl rfl rfl ?_
    refine J.bin rfl rfl rfl rfl rfl rfl (fun w => rfl) ?_
    refine J.pick rfl rfl rfl rfl rfl rfl ?_
    refine J.nil ?_
    refine C.cond rfl (fun h2 => ?_) (fun h2 => ?_)
    · have e : dkNew n = (⟨[], []⟩, 4) := by unfold dkNew; rw [if_pos (.inr (of_decide_eq_true h2))]
      rw [e]
      refine C.seq ?_
      refine C.region ?_
      refine J.bld (pl := #[(0, 1), (1, 1)]) (cells := #[_, _]) rfl rfl rfl rfl rfl Tryz.zeroValue47 Tryz.runUnderlying47 (fun w => by kernel_rfl) rfl ?_
      first | refine J.stwc 0 rfl rfl rfl rfl rfl rfl Tryz.sizeOf47 (by first | rfl | assumption | simp [Value.cells, Value.oneCell']) rfl rfl ?_ | refine J.stw 0 rfl rfl rfl rfl rfl rfl Tryz.sizeOf47 (by first | rfl | assumption | simp [Value.cells, Value.oneCell']) rfl rfl ?_
      refine J.asg rfl rfl rfl rfl rfl ?_
      refine J.nil ?_
      refine C.ret ?_
      exact fin2 rfl (RV.cellw 0 rfl Tryz.isAgg47 rfl Tryz.sizeOf47) (RV.tmp rfl) (fun w' h => retRkZ h)
    · have h2 := of_decide_eq_false h2
      have e : dkNew n = (⟨List.replicate n.toNat sec0, []⟩, 0) := by unfold dkNew; rw [if_neg (by omega)]
      rw [e]
      refine C.skip ?_
      refine C.seq ?_
      refine C.region ?_
      refine J.allocc rfl rfl rfl rfl Tryz.zeroValue47 rfl (fun b4 => ?_)
      refine J.nil ?_
      refine C.seq ?_
      refine C.seq ?_
      refine C.region ?_
      refine J.asg rfl rfl rfl rfl rfl ?_
      refine J.nil ?_
      refine C.block ?_
      refine C.loop (σ := Nat × Value × List Value × (Nat → Prop)) (fun s => (s.1 : Int) ≤ n) (fun s => [(0, vi n), (2, .pointer (some ⟨b2, 0, none⟩)), (4, .pointer (some ⟨b4, 0, none⟩)), (5, vi (s.1 : Int))]) (fun s => [rowR 22 1 s.2.1 s.1 s.2.2.1, mR s.2.2.2 s.2.2.1 (List.replicate s.1 sec0), blk b4 #[s.2.1, .slice none 0 0] 47, blk b2 #[.slice none 0 0, .slice none 0 0] 47]) (fun s => n.toNat - s.1) (0, .slice none 0 0, [], fun _ => False) (by show (0 : Int) ≤ n; omega) ?_ ?_ ?_
      · exact (Sub.cons rfl (Sub.cons rfl (Sub.cons rfl (Sub.cons rfl (Sub.nil _)))))
      · exact fun w h => h.mnil.nilRow _ _
      rintro ⟨i, v, vs, fp⟩ hi
      dsimp only at hi ⊢
      refine C.seq ?_
      refine C.seq ?_
      refine C.region ?_
      refine J.move rfl rfl rfl rfl rfl ?_
      refine J.move rfl rfl rfl rfl rfl ?_
      refine J.bin rfl rfl rfl rfl rfl rfl (fun w => rfl) ?_
      refine J.nil ?_
      refine C.cond rfl (fun h5 => ?_) (fun h5 => ?_)
      · have h5 := of_decide_eq_true h5
        refine C.skip ?_
        refine C.seq ?_
        refine C.block ?_
        refine C.regionD (fun w' => St No w [blk b4 #[v, .slice none 0 0] 47] w') 6 (by kernel_rfl) ?_
        refine JD.take 0 rfl rfl rfl rfl (by kernel_rfl) (fun w h => ((by first | exact h.pick 2 rfl | exact h.pick 3 rfl | exact h.pick 4 rfl))) (R.fld (k := 0) rfl rfl Tryz.runUnderlying47 rfl rfl Tryz.sizeOf44) ?_
        refine JD.take 1 rfl rfl rfl rfl (by kernel_rfl) (fun w h => ((by first | exact h.pick 2 rfl | exact h.pick 3 rfl | exact h.pick 4 rfl))) (R.ld rfl rfl Tryz.isAgg44 (fun w h => cellL h 0 rfl rfl)) ?_
        refine JD.step 2 rfl (by kernel_rfl) ?_
        refine J.mk rfl rfl rfl rfl rfl rfl (n := 64) rfl rfl  Tryz.underlying22 inf5 rfl  (by omega) (by omega) (fun b20 => ?_)
        refine J.nil ⟨(fun _ w h => ((by first | exact h.pick 2 rfl | exact h.pick 3 rfl | exact h.pick 4 rfl))), ?_⟩
        refine JD.step 3 rfl (by kernel_rfl) ?_
        refine J.blds (vs := [_]) (cells := [_]) rfl rfl rfl rfl rfl Tryz.zeroValue22 Tryz.runUnderlying44 Tryz.sizeOf22 rfl rfl rfl rfl (fun b21 => ?_)
        refine J.nil ⟨(fun _ w h => ((by first | exact h.pick 2 rfl | exact h.pick 3 rfl | exact h.pick 4 rfl))), ?_⟩
        refine JD.step 4 rfl (by kernel_rfl) ?_
        refine J.app 2 rfl rfl rfl rfl rfl rfl Tryz.underlying44 inf22 rfl rfl rfl rfl (news := [.slice (some ⟨b20, 0, none⟩) 64 64]) rfl (fun w h hn => srcO h 0 rfl) rfl (by omega) (fun v22 => ?_)
        refine J.fact (fun w h => row_form (h.get 2 rfl)) ?_
        rintro ⟨A22, c22, rfl, -, -⟩
        refine J.nil ⟨(fun _ w h => ((by first | exact h.pick 2 rfl | exact h.pick 3 rfl | exact h.pick 4 rfl))), ?_⟩
        refine JD.take 5 rfl rfl rfl rfl (by kernel_rfl) (fun w h => ((by first | exact h.pick 2 rfl | exact h.pick 3 rfl | exact h.pick 4 rfl))) (R.fld (k := 0) rfl rfl Tryz.runUnderlying47 rfl rfl Tryz.sizeOf44) ?_
        refine JD.step 6 rfl (by kernel_rfl) ?_
        refine J.st1 4 rfl rfl rfl rfl rfl rfl Tryz.sizeOf44 (by first | rfl | assumption | simp [Value.cells, Value.oneCell']) rfl rfl rfl ?_
        refine J.nil ⟨(fun h => by cases h), ?_⟩
        refine JD.done (by kernel_rfl) ?_
        refine C.region ?_
        refine J.move rfl rfl rfl rfl rfl ?_
        refine J.bin rfl rfl rfl rfl rfl rfl (fun w => ra_add (by omega)) ?_
        refine J.asg rfl rfl rfl rfl rfl ?_
        refine J.nil ?_
        refine ⟨rfl, (i + 1, .slice A22 (i + 1) c22, vs ++ [.slice (some ⟨b20, 0, none⟩) 64 64], fun b => fp b ∨ (Value.slice (some ⟨b20, 0, none⟩) 64 64).ownBlock = some b), by dsimp only; omega, by dsimp only; omega, (Sub.cons rfl (Sub.cons rfl (Sub.cons rfl (Sub.cons rfl (Sub.nil _))))), fun w h => ?_⟩
        have g2 := (row_rb (zero_row (h.ord [1, 3, 2, 4, 5] (by decide))) rfl).msnoc
        rw [← List.replicate_succ'] at g2
        exact g2.ord [1, 0, 2, 3] (by decide)
      · have h5 := of_decide_eq_false h5
        have hin : n.toNat = i := by omega
        rw [hin]
        refine C.fact (fun w h => row_form (h.get 0 rfl)) ?_
        rintro ⟨A1, c1, rfl, -, -⟩
        refine C.exit rfl ?_
        refine C.seq ?_
        refine C.region ?_
        refine J.ldw 2 rfl rfl rfl rfl rfl Tryz.isAgg47 rfl Tryz.sizeOf47 ?_
        first | refine J.stwc 3 rfl rfl rfl rfl rfl rfl Tryz.sizeOf47 (by first | rfl | assumption | simp [Value.cells, Value.oneCell']) rfl rfl ?_ | refine J.stw 3 rfl rfl rfl rfl rfl rfl Tryz.sizeOf47 (by first | rfl | assumption | simp [Value.cells, Value.oneCell']) rfl rfl ?_
        refine J.asg rfl rfl rfl rfl rfl ?_
        refine J.nil ?_
        refine C.ret ?_
        refine fin2 rfl (RV.cellw 3 rfl Tryz.isAgg47 rfl Tryz.sizeOf47) (RV.tmp rfl) (fun w' h => ?_)
        exact retRk (d := ⟨List.replicate i sec0, []⟩) (by simp) rfl ((nilRws h.rbs_of).ord [1, 0] (by decide))
theorem take_any {α : Type} {p : α → Bool} {l : List α} {i : Nat} {x : α} (hx : l[i]? = some x) (h1 : (l.take i).any p = false) (h2 : p x = false) : (l.take (i + 1)).any p = false := by
  rw [take_snoc hx, List.any_append, h1]
  simp [h2]
theorem rCheck_dk_calls (w : World) (d : Dk) (sv cv : Value) (hs : BSA w sv d.secs) (hc : WSA w cv d.cache) : Calls Tryz.prog 54 #[.agg #[sv, cv]] w (Ret0 w (vi (dkErr d))) := by
  have hs0 := hs
  have hc0 := hc
  obtain ⟨A, c, rfl, h1, h2, h3⟩ := hs.form
  obtain ⟨A2, c2, rfl, k1, k2, k3⟩ := hc.form
  refine calls_of_C Tryz.func54 rfl Tryz.ntmps54 (Nat.le_of_ble_eq_true rfl) ?_
  refine C.less (L' := [(0, _)]) ?_ (Sub.cons rfl (Sub.nil _)) (fun w h => h)
  refine C.seq ?_
  refine C.region ?_
  first | refine J.boxc rfl rfl rfl rfl rfl rfl (fun b1 => ?_) | refine J.box rfl rfl rfl rfl rfl (fun b1 => ?_)
  refine J.asg rfl rfl rfl rfl rfl ?_
  refine J.nil ?_
  refine C.seq ?_
  refine C.seq ?_
  refine C.region ?_
  refine J.fld (k := 0) rfl rfl rfl rfl rfl Tryz.runUnderlying47 rfl rfl Tryz.sizeOf44 ?_
  refine J.ldo 0 rfl rfl rfl rfl rfl Tryz.isAgg44 rfl rfl ?_
  refine J.len rfl rfl rfl rfl rfl Tryz.runUnderlying44 ?_
  refine J.bin rfl rfl rfl rfl rfl rfl (fun w => rfl) ?_
  refine J.move rfl rfl rfl rfl rfl ?_
  rcases Decidable.em ((d.secs.length : Int) < 1) with e1 | e1
  · have e : dkErr d = 9 := by unfold dkErr dkBad; rw [dec_t (show d.secs.length < 1 by omega)]; simp
    rw [e, dec_t e1]
    refine J.pass rfl rfl rfl rfl rfl (by intro h; cases h) ?_
    refine J.pass rfl rfl rfl rfl rfl (by intro h; cases h) ?_
    refine J.pass rfl rfl rfl rfl rfl (by intro h; cases h) ?_
    refine J.pass rfl rfl rfl rfl rfl (by intro h; cases h) ?_
    refine J.pick rfl rfl rfl rfl rfl rfl ?_
    refine J.move rfl rfl rfl rfl rfl ?_
    refine J.pass rfl rfl rfl rfl rfl (by intro h; cases h) ?_
    refine J.pass rfl rfl rfl rfl rfl (by intro h; cases h) ?_
    refine J.pass rfl rfl rfl rfl rfl (by intro h; cases h) ?_
    refine J.pass rfl rfl rfl rfl rfl (by intro h; cases h) ?_
    refine J.pick rfl rfl rfl rfl rfl rfl ?_
    refine J.nil ?_
    refine C.cond_t rfl ?_
    refine C.seq ?_
    refine C.region ?_
    refine J.asg rfl rfl rfl rfl rfl ?_
    refine J.nil ?_
    refine C.ret ?_
    exact fin1 rfl (RV.tmp rfl) (fun w' h => h.ret0)
  · rw [dec_f e1]
    refine J.want rfl rfl rfl rfl ?_
    refine J.fld (k := 0) rfl rfl rfl rfl rfl Tryz.runUnderlying47 rfl rfl Tryz.sizeOf44 ?_
    refine J.want rfl rfl rfl rfl ?_
    refine J.ldo 0 rfl rfl rfl rfl rfl Tryz.isAgg44 rfl rfl ?_
    refine J.want rfl rfl rfl rfl ?_
    refine J.len rfl rfl rfl rfl rfl Tryz.runUnderlying44 ?_
    refine J.want rfl rfl rfl rfl ?_
    refine J.bin rfl rfl rfl rfl rfl rfl (fun w => rfl) ?_
    refine J.pick rfl rfl rfl rfl rfl rfl ?_
    refine J.move rfl rfl rfl rfl rfl ?_
    rcases Decidable.em ((d.secs.length : Int) > 2048) with e2 | e2
    · have e : dkErr d = 9 := by unfold dkErr dkBad; rw [dec_t (show d.secs.length > 2048 by omega)]; simp
      rw [e, dec_t e2]
      refine J.pass rfl rfl rfl rfl rfl (by intro h; cases h) ?_
      refine J.pass rfl rfl rfl rfl rfl (by intro h; cases h) ?_
      refine J.pass rfl rfl rfl rfl rfl (by intro h; cases h) ?_
      refine J.pass rfl rfl rfl rfl rfl (by intro h; cases h) ?_
      refine J.pick rfl rfl rfl rfl rfl rfl ?_
      refine J.nil ?_
      refine C.cond_t rfl ?_
      refine C.seq ?_
      refine C.region ?_
      refine J.asg rfl rfl rfl rfl rfl ?_
      refine J.nil ?_
      refine C.ret ?_
      exact fin1 rfl (RV.tmp rfl) (fun w' h => h.ret0)
    · rw [dec_f e2]
      refine J.want rfl rfl rfl rfl ?_
      refine J.fld (k := 1) rfl rfl rfl rfl rfl Tryz.runUnderlying47 rfl rfl Tryz.sizeOf45 ?_
      refine J.want rfl rfl rfl rfl ?_
      refine J.ldo 0 rfl rfl rfl rfl rfl Tryz.isAgg45 rfl rfl ?_
      refine J.want rfl rfl rfl rfl ?_
      refine J.len rfl rfl rfl rfl rfl Tryz.runUnderlying45 ?_
      refine J.want rfl rfl rfl rfl ?_
      refine J.bin rfl rfl rfl rfl rfl rfl (fun w => rfl) ?_
      refine J.pick rfl rfl rfl rfl rfl rfl ?_
      refine J.nil ?_
      rcases Decidable.em ((d.cache.length : Int) > 4096) with e3 | e3
      · have e : dkErr d = 9 := by unfold dkErr dkBad; rw [dec_t (show d.cache.length > 4096 by omega)]; simp
        rw [e, dec_t e3]
        refine C.cond_t rfl ?_
        refine C.seq ?_
        refine C.region ?_
        refine J.asg rfl rfl rfl rfl rfl ?_
        refine J.nil ?_
        refine C.ret ?_
        exact fin1 rfl (RV.tmp rfl) (fun w' h => h.ret0)
      · rw [dec_f e3]
        refine C.cond_f rfl ?_
        refine C.skip ?_
        refine C.seq ?_
        refine C.seq ?_
        refine C.region ?_
        refine J.asg rfl rfl rfl rfl rfl ?_
        refine J.nil ?_
        refine C.block ?_
        have eb : dkErr d = if d.secs.any oddS || d.cache.any (badW d.secs.length) then 9 else 0 := by unfold dkErr dkBad; rw [dec_f (show ¬ d.secs.length < 1 by omega), dec_f (show ¬ d.secs.length > 2048 by omega), dec_f (show ¬ d.cache.length > 4096 by omega)]; rfl
        refine C.loop (σ := Nat) (fun i => i ≤ d.secs.length ∧ (d.secs.take i).any oddS = false) (fun i => [(1, .pointer (some ⟨b1, 0, none⟩)), (3, vi (i : Int))]) (fun i => [blk b1 #[.slice A d.secs.length c, .slice A2 d.cache.length c2] 47]) (fun i => d.secs.length - i) 0 ⟨Nat.zero_le _, rfl⟩ ?_ ?_ ?_
        · exact (Sub.cons rfl (Sub.cons rfl (Sub.nil _)))
        · exact fun w h => h
        rintro i ⟨hi, hpre⟩
        dsimp only
        refine C.seq ?_
        refine C.seq ?_
        refine C.region ?_
        refine J.move rfl rfl rfl rfl rfl ?_
        refine J.fld (k := 0) rfl rfl rfl rfl rfl Tryz.runUnderlying47 rfl rfl Tryz.sizeOf44 ?_
        refine J.ldo 0 rfl rfl rfl rfl rfl Tryz.isAgg44 rfl rfl ?_
        refine J.len rfl rfl rfl rfl rfl Tryz.runUnderlying44 ?_
        refine J.bin rfl rfl rfl rfl rfl rfl (fun w => rfl) ?_
        refine J.nil ?_
        refine C.cond rfl (fun h5 => ?_) (fun h5 => ?_)
        · have hlt : i < d.secs.length := by have := of_decide_eq_true h5; omega
          obtain ⟨x, hx⟩ : ∃ x, d.secs[i]? = some x := ⟨_, List.getElem?_eq_getElem hlt⟩
          obtain ⟨b, o, rfl, hb, hcell⟩ := h3 (by omega)
          obtain ⟨u, hu, hr⟩ := hcell i x hx
          obtain ⟨Au, cu, rfl, -, -, -⟩ := hr.form
          refine C.skip ?_
          refine C.seq ?_
          refine C.block ?_
          refine C.seq ?_
          refine C.region ?_
          refine J.fld (k := 0) rfl rfl rfl rfl rfl Tryz.runUnderlying47 rfl rfl Tryz.sizeOf44 ?_
          refine J.ldo 0 rfl rfl rfl rfl rfl Tryz.isAgg44 rfl rfl ?_
          refine J.move rfl rfl rfl rfl rfl ?_
          first | refine J.idx1 rfl rfl rfl rfl rfl rfl Tryz.runUnderlying44 Tryz.sizeOf22 (by omega) ?_ | refine J.idx rfl rfl rfl rfl rfl rfl Tryz.runUnderlying44 Tryz.sizeOf22 (by omega) ?_
          refine J.ld rfl rfl rfl rfl rfl Tryz.isAgg22 (fun w h => cellOld h hu) ?_
          refine J.len rfl rfl rfl rfl rfl Tryz.runUnderlying22 ?_
          refine J.bin rfl rfl rfl rfl rfl rfl (fun w => rfl) ?_
          refine J.nil ?_
          refine C.cond rfl (fun h6 => ?_) (fun h6 => ?_)
          · have hxo : oddS x = true := by unfold oddS; simp at h6; simp; omega
            rw [eb, show d.secs.any oddS = true from List.any_eq_true.2 ⟨x, List.mem_of_getElem? hx, hxo⟩]
            refine C.seq ?_
            refine C.region ?_
            refine J.asg rfl rfl rfl rfl rfl ?_
            refine J.nil ?_
            refine C.ret ?_
            exact fin1 rfl (RV.tmp rfl) (fun w' h => h.ret0)
          · have hxo : oddS x = false := by unfold oddS; simp at h6; simp; omega
            refine C.skip ?_
            refine C.region ?_
            refine J.move rfl rfl rfl rfl rfl ?_
            refine J.bin rfl rfl rfl rfl rfl rfl (fun w => ra_add (by omega)) ?_
            refine J.asg rfl rfl rfl rfl rfl ?_
            refine J.nil ?_
            exact ⟨rfl, i + 1, ⟨hlt, take_any hx hpre hxo⟩, by omega, (Sub.cons rfl (Sub.cons rfl (Sub.nil _))), fun w h => h⟩
        · have hge : i = d.secs.length := by have := of_decide_eq_false h5; omega
          rw [hge, List.take_length] at hpre
          rw [hpre, Bool.false_or] at eb
          refine C.exit rfl ?_
          refine C.seq ?_
          refine C.seq ?_
          refine C.region ?_
          refine J.asg rfl rfl rfl rfl rfl ?_
          refine J.nil ?_
          refine C.block ?_
          refine C.loop (σ := Nat) (fun i => i ≤ d.cache.length ∧ (d.cache.take i).any (badW d.secs.length) = false) (fun i => [(1, .pointer (some ⟨b1, 0, none⟩)), (4, vi (i : Int))]) (fun i => [blk b1 #[.slice A d.secs.length c, .slice A2 d.cache.length c2] 47]) (fun i => d.cache.length - i) 0 ⟨Nat.zero_le _, rfl⟩ ?_ ?_ ?_
          · exact (Sub.cons rfl (Sub.cons rfl (Sub.nil _)))
          · exact fun w h => h
          rintro i ⟨hi, hpre⟩
          dsimp only
          refine C.seq ?_
          refine C.seq ?_
          refine C.region ?_
          refine J.move rfl rfl rfl rfl rfl ?_
          refine J.fld (k := 1) rfl rfl rfl rfl rfl Tryz.runUnderlying47 rfl rfl Tryz.sizeOf45 ?_
          refine J.ldo 0 rfl rfl rfl rfl rfl Tryz.isAgg45 rfl rfl ?_
          refine J.len rfl rfl rfl rfl rfl Tryz.runUnderlying45 ?_
          refine J.bin rfl rfl rfl rfl rfl rfl (fun w => rfl) ?_
          refine J.nil ?_
          refine C.cond rfl (fun h5 => ?_) (fun h5 => ?_)
          · have hlt : i < d.cache.length := by have := of_decide_eq_true h5; omega
            obtain ⟨x, hx⟩ : ∃ x, d.cache[i]? = some x := ⟨_, List.getElem?_eq_getElem hlt⟩
            obtain ⟨b, o, rfl, hb, hcell⟩ := k3 (by omega)
            obtain ⟨u, hu0, hu1, hr⟩ := hcell i x hx
            obtain ⟨Au, cu, rfl, -, -, -⟩ := hr.form
            refine C.skip ?_
            refine C.seq ?_
            refine C.block ?_
            refine C.seq ?_
            refine C.region ?_
            refine J.fld (k := 1) rfl rfl rfl rfl rfl Tryz.runUnderlying47 rfl rfl Tryz.sizeOf45 ?_
            refine J.ldo 0 rfl rfl rfl rfl rfl Tryz.isAgg45 rfl rfl ?_
            refine J.move rfl rfl rfl rfl rfl ?_
            first | refine J.idxn rfl rfl rfl rfl rfl rfl Tryz.runUnderlying45 Tryz.sizeOf89 (by omega) ?_ | refine J.idx rfl rfl rfl rfl rfl rfl Tryz.runUnderlying45 Tryz.sizeOf89 (by omega) ?_
            refine J.ldn (cs := [_, _]) rfl rfl rfl rfl rfl Tryz.isAgg89 Tryz.sizeOf89 (fun w h => cells2 (cellOld h hu0) (cellOld h hu1)) ?_
            refine J.allocc rfl rfl rfl rfl Tryz.zeroValue89 rfl (fun b5 => ?_)
            first | refine J.stwc 0 rfl rfl rfl rfl rfl rfl Tryz.sizeOf89 (by first | rfl | assumption | simp [Value.cells, Value.oneCell']) rfl rfl ?_ | refine J.stw 0 rfl rfl rfl rfl rfl rfl Tryz.sizeOf89 (by first | rfl | assumption | simp [Value.cells, Value.oneCell']) rfl rfl ?_
            refine J.nil ?_
            refine C.seq ?_
            refine C.region ?_
            refine J.fld (k := 0) rfl rfl rfl rfl rfl Tryz.runUnderlying89 rfl rfl Tryz.sizeOf3 ?_
            refine J.ldo 0 rfl rfl rfl rfl rfl Tryz.isAgg3 rfl rfl ?_
            refine J.bin rfl rfl rfl rfl rfl rfl (fun w => rfl) ?_
            refine J.move rfl rfl rfl rfl rfl ?_
            rcases Decidable.em (x.1 < 0) with e4 | e4
            · have hxb : badW d.secs.length x = true := by unfold badW; rw [dec_t e4]; rfl
              rw [dec_t e4]
              refine J.pass rfl rfl rfl rfl rfl (by intro h; cases h) ?_
              refine J.pass rfl rfl rfl rfl rfl (by intro h; cases h) ?_
              refine J.pass rfl rfl rfl rfl rfl (by intro h; cases h) ?_
              refine J.pass rfl rfl rfl rfl rfl (by intro h; cases h) ?_
              refine J.pass rfl rfl rfl rfl rfl (by intro h; cases h) ?_
              refine J.pass rfl rfl rfl rfl rfl (by intro h; cases h) ?_
              refine J.pick rfl rfl rfl rfl rfl rfl ?_
              refine J.move rfl rfl rfl rfl rfl ?_
              refine J.pass rfl rfl rfl rfl rfl (by intro h; cases h) ?_
              refine J.pass rfl rfl rfl rfl rfl (by intro h; cases h) ?_
              refine J.pass rfl rfl rfl rfl rfl (by intro h; cases h) ?_
              refine J.pass rfl rfl rfl rfl rfl (by intro h; cases h) ?_
              refine J.pick rfl rfl rfl rfl rfl rfl ?_
              refine J.nil ?_
              refine C.cond_t rfl ?_
              refine C.seq ?_
              refine C.region ?_
              refine J.asg rfl rfl rfl rfl rfl ?_
              refine J.nil ?_
              refine C.ret ?_
              rw [eb, show d.cache.any (badW d.secs.length) = true from List.any_eq_true.2 ⟨x, List.mem_of_getElem? hx, hxb⟩]
              exact fin1 rfl (RV.tmp rfl) (fun w' h => h.ret0)
            · rw [dec_f e4]
              refine J.want rfl rfl rfl rfl ?_
              refine J.fld (k := 0) rfl rfl rfl rfl rfl Tryz.runUnderlying89 rfl rfl Tryz.sizeOf3 ?_
              refine J.want rfl rfl rfl rfl ?_
              refine J.ldo 0 rfl rfl rfl rfl rfl Tryz.isAgg3 rfl rfl ?_
              refine J.want rfl rfl rfl rfl ?_
              refine J.fld (k := 0) rfl rfl rfl rfl rfl Tryz.runUnderlying47 rfl rfl Tryz.sizeOf44 ?_
              refine J.want rfl rfl rfl rfl ?_
              refine J.ldo 1 rfl rfl rfl rfl rfl Tryz.isAgg44 rfl rfl ?_
              refine J.want rfl rfl rfl rfl ?_
              refine J.len rfl rfl rfl rfl rfl Tryz.runUnderlying44 ?_
              refine J.want rfl rfl rfl rfl ?_
              refine J.bin rfl rfl rfl rfl rfl rfl (fun w => rfl) ?_
              refine J.pick rfl rfl rfl rfl rfl rfl ?_
              refine J.move rfl rfl rfl rfl rfl ?_
              rcases Decidable.em (x.1 ≥ d.secs.length) with e5 | e5
              · have hxb : badW d.secs.length x = true := by unfold badW; rw [dec_t e5]; simp
                rw [dec_t e5]
                refine J.pass rfl rfl rfl rfl rfl (by intro h; cases h) ?_
                refine J.pass rfl rfl rfl rfl rfl (by intro h; cases h) ?_
                refine J.pass rfl rfl rfl rfl rfl (by intro h; cases h) ?_
                refine J.pass rfl rfl rfl rfl rfl (by intro h; cases h) ?_
                refine J.pick rfl rfl rfl rfl rfl rfl ?_
                refine J.nil ?_
                refine C.cond_t rfl ?_
                refine C.seq ?_
                refine C.region ?_
                refine J.asg rfl rfl rfl rfl rfl ?_
                refine J.nil ?_
                refine C.ret ?_
                rw [eb, show d.cache.any (badW d.secs.length) = true from List.any_eq_true.2 ⟨x, List.mem_of_getElem? hx, hxb⟩]
                exact fin1 rfl (RV.tmp rfl) (fun w' h => h.ret0)
              · rw [dec_f e5]
                refine J.want rfl rfl rfl rfl ?_
                refine J.fld (k := 1) rfl rfl rfl rfl rfl Tryz.runUnderlying89 rfl rfl Tryz.sizeOf22 ?_
                refine J.want rfl rfl rfl rfl ?_
                refine J.ldo 0 rfl rfl rfl rfl rfl Tryz.isAgg22 rfl rfl ?_
                refine J.want rfl rfl rfl rfl ?_
                refine J.len rfl rfl rfl rfl rfl Tryz.runUnderlying22 ?_
                refine J.want rfl rfl rfl rfl ?_
                refine J.bin rfl rfl rfl rfl rfl rfl (fun w => rfl) ?_
                refine J.pick rfl rfl rfl rfl rfl rfl ?_
                refine J.nil ?_
                refine C.cond rfl (fun h6 => ?_) (fun h6 => ?_)
                · have hxb : badW d.secs.length x = true := by unfold badW oddS; simp at h6; simp; omega
                  refine C.seq ?_
                  refine C.region ?_
                  refine J.asg rfl rfl rfl rfl rfl ?_
                  refine J.nil ?_
                  refine C.ret ?_
                  rw [eb, show d.cache.any (badW d.secs.length) = true from List.any_eq_true.2 ⟨x, List.mem_of_getElem? hx, hxb⟩]
                  exact fin1 rfl (RV.tmp rfl) (fun w' h => h.ret0)
                · have hxb : badW d.secs.length x = false := by unfold badW oddS; simp at h6; simp; omega
                  refine C.skip ?_
                  refine C.region ?_
                  refine J.move rfl rfl rfl rfl rfl ?_
                  refine J.bin rfl rfl rfl rfl rfl rfl (fun w => ra_add (by omega)) ?_
                  refine J.asg rfl rfl rfl rfl rfl ?_
                  refine J.nil ?_
                  exact ⟨rfl, i + 1, ⟨hlt, take_any hx hpre hxb⟩, by omega, (Sub.cons rfl (Sub.cons rfl (Sub.nil _))), fun w h => h.pick 1 rfl⟩
          · have hge : i = d.cache.length := by have := of_decide_eq_false h5; omega
            rw [hge, List.take_length] at hpre
            rw [eb, hpre]
            refine C.exit rfl ?_
            refine C.seq ?_
            refine C.region ?_
            refine J.asg rfl rfl rfl rfl rfl ?_
            refine J.nil ?_
            refine C.ret ?_
            exact fin1 rfl (RV.tmp rfl) (fun w' h => h.ret0)
end Go.Proofs.YtiminmnmeknioaaGreatDoor

/- ref03.Own. -/
set_option linter.unusedVariables false
namespace Go.Proofs.YtiminmnmeknioaaGreatDoor
open Go Go.RowKit

/-- The page's disk in rows of one's own. -/
def PRo (d : Dk) : Value → List Res → Prop := fun v Rs => ∃ A1 c1 A2 c2 vs us fp1 fp2, us.length = d.cache.length ∧ Rs = [rowR 22 1 (.slice A1 d.secs.length c1) d.secs.length vs, mR fp1 vs d.secs, rowR 89 2 (.slice A2 d.cache.length c2) d.cache.length (wcells d.cache us), mR fp2 us (d.cache.map (·.2))] ∧ v = .agg #[.slice A1 d.secs.length c1, .slice A2 d.cache.length c2]
theorem Own_calls (w : World) (d : Dk) (sv cv : Value) (hs : BSA w sv d.secs) (hc : WSA w cv d.cache) (hok : dkBad d = false) : Calls Tryz.prog 55 #[.agg #[sv, cv]] w (RetL No w (PRo d)) := by
  obtain ⟨⟨hs1, hs2⟩, hc1, hsl, hcl⟩ := dkOk hok
  obtain ⟨A, c, rfl, h1, h2, h3⟩ := hs.form
  obtain ⟨A2, c2, rfl, k1, k2, k3⟩ := hc.form
  refine calls_of_C Tryz.func55 rfl Tryz.ntmps55 (Nat.le_of_ble_eq_true rfl) ?_
  refine C.less (L' := [(0, _)]) ?_ (Sub.cons rfl (Sub.nil _)) (fun w h => h)
  refine C.seq ?_
  refine C.region ?_
  first | refine J.boxc rfl rfl rfl rfl rfl rfl (fun b1 => ?_) | refine J.box rfl rfl rfl rfl rfl (fun b1 => ?_)
  refine J.allocc rfl rfl rfl rfl Tryz.zeroValue47 rfl (fun b2 => ?_)
  refine J.nil ?_
  refine C.seq ?_
  refine C.region ?_
  refine J.allocc rfl rfl rfl rfl Tryz.zeroValue47 rfl (fun b3 => ?_)
  refine J.nil ?_
  refine C.seq ?_
  refine C.seq ?_
  refine C.region ?_
  refine J.asg rfl rfl rfl rfl rfl ?_
  refine J.nil ?_
  refine C.block ?_
  refine C.loop (σ := Nat × Value × List Value × (Nat → Prop)) (fun s => s.1 ≤ d.secs.length) (fun s => [(1, .pointer (some ⟨b1, 0, none⟩)), (2, .pointer (some ⟨b2, 0, none⟩)), (3, .pointer (some ⟨b3, 0, none⟩)), (4, vi (s.1 : Int))]) (fun s => [rowR 22 1 s.2.1 s.1 s.2.2.1, mR s.2.2.2 s.2.2.1 (d.secs.take s.1), blk b3 #[s.2.1, .slice none 0 0] 47, blk b1 #[.slice A d.secs.length c, .slice A2 d.cache.length c2] 47, blk b2 #[.slice none 0 0, .slice none 0 0] 47]) (fun s => d.secs.length - s.1) (0, .slice none 0 0, [], fun _ => False) (Nat.zero_le _) ?_ ?_ ?_
  · exact (Sub.cons rfl (Sub.cons rfl (Sub.cons rfl (Sub.cons rfl (Sub.nil _)))))
  · exact fun w h => (h.mnil.nilRow _ _).ord [0, 1, 2, 4, 3] (by decide)
  rintro ⟨i, v, vs, fp⟩ hi
  dsimp only at hi ⊢
  refine C.seq ?_
  refine C.seq ?_
  refine C.region ?_
  refine J.move rfl rfl rfl rfl rfl ?_
  refine J.fld (k := 0) rfl rfl rfl rfl rfl Tryz.runUnderlying47 rfl rfl Tryz.sizeOf44 ?_
  refine J.ldo 3 rfl rfl rfl rfl rfl Tryz.isAgg44 rfl rfl ?_
  refine J.len rfl rfl rfl rfl rfl Tryz.runUnderlying44 ?_
  refine J.bin rfl rfl rfl rfl rfl rfl (fun w => rfl) ?_
  refine J.nil ?_
  refine C.cond rfl (fun h => ?_) (fun h => ?_)
  · have hlt : i < d.secs.length := by have := of_decide_eq_true h; omega
    obtain ⟨x, hx⟩ : ∃ x, d.secs[i]? = some x := ⟨_, List.getElem?_eq_getElem hlt⟩
    have hx64 := hsl x (List.mem_of_getElem? hx)
    obtain ⟨b, o, rfl, hb, hcell⟩ := h3 (by omega)
    obtain ⟨u, hu, hr⟩ := hcell i x hx
    refine C.skip ?_
    refine C.seq ?_
    refine C.block ?_
    refine C.regionD (fun w' => St No w [blk b3 #[v, .slice none 0 0] 47, blk b1 #[.slice (some ⟨b, o, none⟩) d.secs.length c, .slice A2 d.cache.length c2] 47] w') 11 (by kernel_rfl) ?_
    refine JD.take 0 rfl rfl rfl rfl (by kernel_rfl) (fun w h => ((by first | exact h.ord [2, 3] (by decide) | exact h.ord [3, 4] (by decide) | exact h.ord [4, 5] (by decide)))) (R.fld (k := 0) rfl rfl Tryz.runUnderlying47 rfl rfl Tryz.sizeOf44) ?_
    refine JD.take 1 rfl rfl rfl rfl (by kernel_rfl) (fun w h => ((by first | exact h.ord [2, 3] (by decide) | exact h.ord [3, 4] (by decide) | exact h.ord [4, 5] (by decide)))) (R.ld rfl rfl Tryz.isAgg44 (fun w h => cellL h 0 rfl rfl)) ?_
    refine JD.take 2 rfl rfl rfl rfl (by kernel_rfl) (fun w h => ((by first | exact h.ord [2, 3] (by decide) | exact h.ord [3, 4] (by decide) | exact h.ord [4, 5] (by decide)))) (R.fld (k := 0) rfl rfl Tryz.runUnderlying47 rfl rfl Tryz.sizeOf44) ?_
    refine JD.take 3 rfl rfl rfl rfl (by kernel_rfl) (fun w h => ((by first | exact h.ord [2, 3] (by decide) | exact h.ord [3, 4] (by decide) | exact h.ord [4, 5] (by decide)))) (R.ld rfl rfl Tryz.isAgg44 (fun w h => cellL h 1 rfl rfl)) ?_
    refine JD.take 4 rfl rfl rfl rfl (by kernel_rfl) (fun w h => ((by first | exact h.ord [2, 3] (by decide) | exact h.ord [3, 4] (by decide) | exact h.ord [4, 5] (by decide)))) (R.move rfl rfl) ?_
    refine JD.take 5 rfl rfl rfl rfl (by kernel_rfl) (fun w h => ((by first | exact h.ord [2, 3] (by decide) | exact h.ord [3, 4] (by decide) | exact h.ord [4, 5] (by decide)))) (by first | exact (R.idx1 rfl rfl rfl Tryz.runUnderlying44 Tryz.sizeOf22 (by omega)) | exact (R.idx rfl rfl rfl Tryz.runUnderlying44 Tryz.sizeOf22 (by omega))) ?_
    refine JD.take 6 rfl rfl rfl rfl (by kernel_rfl) (fun w h => ((by first | exact h.ord [2, 3] (by decide) | exact h.ord [3, 4] (by decide) | exact h.ord [4, 5] (by decide)))) (R.ld rfl rfl Tryz.isAgg22 (fun w h => cellOld h hu)) ?_
    refine JD.step 7 rfl (by kernel_rfl) ?_
    refine J.callr rfl rfl rfl rfl rfl Tryz.call57 (fun w h => Copied_calls w _ x (h.ba hr) (by omega))  ?_
    rintro v20 r20 ⟨Au, cu, fu, -, -, rfl, rfl⟩
    refine J.nil ⟨(fun _ w h => ((by first | exact h.ord [2, 3] (by decide) | exact h.ord [3, 4] (by decide) | exact h.ord [4, 5] (by decide)))), ?_⟩
    refine JD.step 8 rfl (by kernel_rfl) ?_
    refine J.blds (vs := [_]) (cells := [_]) rfl rfl rfl rfl rfl Tryz.zeroValue22 Tryz.runUnderlying44 Tryz.sizeOf22 rfl rfl rfl rfl (fun b21 => ?_)
    refine J.nil ⟨(fun _ w h => ((by first | exact h.ord [2, 3] (by decide) | exact h.ord [3, 4] (by decide) | exact h.ord [4, 5] (by decide)))), ?_⟩
    refine JD.step 9 rfl (by kernel_rfl) ?_
    refine J.app 2 rfl rfl rfl rfl rfl rfl Tryz.underlying44 inf22 rfl rfl rfl rfl (news := [.slice Au x.length cu]) rfl (fun w h hn => srcO h 0 rfl) rfl (by omega) (fun v22 => ?_)
    refine J.fact (fun w h => row_form (h.get 2 rfl)) ?_
    rintro ⟨A22, c22, rfl, -, -⟩
    refine J.nil ⟨(fun _ w h => ((by first | exact h.ord [2, 3] (by decide) | exact h.ord [3, 4] (by decide) | exact h.ord [4, 5] (by decide)))), ?_⟩
    refine JD.take 10 rfl rfl rfl rfl (by kernel_rfl) (fun w h => ((by first | exact h.ord [2, 3] (by decide) | exact h.ord [3, 4] (by decide) | exact h.ord [4, 5] (by decide)))) (R.fld (k := 0) rfl rfl Tryz.runUnderlying47 rfl rfl Tryz.sizeOf44) ?_
    refine JD.step 11 rfl (by kernel_rfl) ?_
    refine J.st1 4 rfl rfl rfl rfl rfl rfl Tryz.sizeOf44 (by first | rfl | assumption | simp [Value.cells, Value.oneCell']) rfl rfl rfl ?_
    refine J.nil ⟨(fun h => by cases h), ?_⟩
    refine JD.done (by kernel_rfl) ?_
    refine C.region ?_
    refine J.move rfl rfl rfl rfl rfl ?_
    refine J.bin rfl rfl rfl rfl rfl rfl (fun w => ra_add (by omega)) ?_
    refine J.asg rfl rfl rfl rfl rfl ?_
    refine J.nil ?_
    refine ⟨rfl, (i + 1, .slice A22 (i + 1) c22, vs ++ [.slice Au x.length cu], fun b => fp b ∨ fu b), hlt, by dsimp only; omega, (Sub.cons rfl (Sub.cons rfl (Sub.cons rfl (Sub.cons rfl (Sub.nil _))))), fun w h => ?_⟩
    have g1 := (h.ord [1, 3, 2, 4, 5, 6] (by decide)).msnoc
    rw [← take_snoc hx] at g1
    exact g1.ord [1, 0, 2, 3, 4] (by decide)
  · have hge : i = d.secs.length := by have := of_decide_eq_false h; omega
    subst hge
    rw [List.take_length]
    refine C.fact (fun w h => row_form (h.get 0 rfl)) ?_
    rintro ⟨A1, c1, rfl, -, -⟩
    refine C.exit rfl ?_
    refine C.seq ?_
    refine C.seq ?_
    refine C.region ?_
    refine J.asg rfl rfl rfl rfl rfl ?_
    refine J.nil ?_
    refine C.block ?_
    refine C.loop (σ := Nat × Value × List Value × (Nat → Prop)) (fun s => s.1 ≤ d.cache.length ∧ s.2.2.1.length = s.1) (fun s => [(1, .pointer (some ⟨b1, 0, none⟩)), (2, .pointer (some ⟨b2, 0, none⟩)), (3, .pointer (some ⟨b3, 0, none⟩)), (5, vi (s.1 : Int))]) (fun s => [rowR 89 2 s.2.1 s.1 (wcells (d.cache.take s.1) s.2.2.1), mR s.2.2.2 s.2.2.1 ((d.cache.take s.1).map (·.2)), blk b3 #[.slice A1 d.secs.length c1, s.2.1] 47, blk b1 #[.slice A d.secs.length c, .slice A2 d.cache.length c2] 47, rowR 22 1 (.slice A1 d.secs.length c1) d.secs.length vs, mR fp vs d.secs, blk b2 #[.slice none 0 0, .slice none 0 0] 47]) (fun s => d.cache.length - s.1) (0, .slice none 0 0, [], fun _ => False) ⟨Nat.zero_le _, rfl⟩ ?_ ?_ ?_
    · exact (Sub.cons rfl (Sub.cons rfl (Sub.cons rfl (Sub.cons rfl (Sub.nil _)))))
    · exact fun w h => (h.mnil.nilRow _ _).ord [0, 1, 4, 5, 2, 3, 6] (by decide)
    rintro ⟨i, v, us, fq⟩ ⟨hi, hul⟩
    dsimp only at hi hul ⊢
    refine C.seq ?_
    refine C.seq ?_
    refine C.region ?_
    refine J.move rfl rfl rfl rfl rfl ?_
    refine J.fld (k := 1) rfl rfl rfl rfl rfl Tryz.runUnderlying47 rfl rfl Tryz.sizeOf45 ?_
    refine J.ldo 3 rfl rfl rfl rfl rfl Tryz.isAgg45 rfl rfl ?_
    refine J.len rfl rfl rfl rfl rfl Tryz.runUnderlying45 ?_
    refine J.bin rfl rfl rfl rfl rfl rfl (fun w => rfl) ?_
    refine J.nil ?_
    refine C.cond rfl (fun h => ?_) (fun h => ?_)
    · have hlt : i < d.cache.length := by have := of_decide_eq_true h; omega
      obtain ⟨x, hx⟩ : ∃ x, d.cache[i]? = some x := ⟨_, List.getElem?_eq_getElem hlt⟩
      have hx64 := hcl x (List.mem_of_getElem? hx)
      obtain ⟨b, o, rfl, hb, hcell⟩ := k3 (by omega)
      obtain ⟨u, hu0, hu1, hr⟩ := hcell i x hx
      refine C.skip ?_
      refine C.seq ?_
      refine C.block ?_
      refine C.regionD (fun w' => St No w [blk b3 #[.slice A1 d.secs.length c1, v] 47, blk b1 #[.slice A d.secs.length c, .slice (some ⟨b, o, none⟩) d.cache.length c2] 47] w') 19 (by kernel_rfl) ?_
      refine JD.take 0 rfl rfl rfl rfl (by kernel_rfl) (fun w h => ((by first | exact h.ord [2, 3] (by decide) | exact h.ord [3, 4] (by decide) | exact h.ord [4, 5] (by decide)))) (R.fld (k := 1) rfl rfl Tryz.runUnderlying47 rfl rfl Tryz.sizeOf45) ?_
      refine JD.take 1 rfl rfl rfl rfl (by kernel_rfl) (fun w h => ((by first | exact h.ord [2, 3] (by decide) | exact h.ord [3, 4] (by decide) | exact h.ord [4, 5] (by decide)))) (R.ld rfl rfl Tryz.isAgg45 (fun w h => cellL h 0 rfl rfl)) ?_
      refine JD.take 2 rfl rfl rfl rfl (by kernel_rfl) (fun w h => ((by first | exact h.ord [2, 3] (by decide) | exact h.ord [3, 4] (by decide) | exact h.ord [4, 5] (by decide)))) (R.fld (k := 1) rfl rfl Tryz.runUnderlying47 rfl rfl Tryz.sizeOf45) ?_
      refine JD.take 3 rfl rfl rfl rfl (by kernel_rfl) (fun w h => ((by first | exact h.ord [2, 3] (by decide) | exact h.ord [3, 4] (by decide) | exact h.ord [4, 5] (by decide)))) (R.ld rfl rfl Tryz.isAgg45 (fun w h => cellL h 1 rfl rfl)) ?_
      refine JD.take 4 rfl rfl rfl rfl (by kernel_rfl) (fun w h => ((by first | exact h.ord [2, 3] (by decide) | exact h.ord [3, 4] (by decide) | exact h.ord [4, 5] (by decide)))) (R.move rfl rfl) ?_
      refine JD.take 5 rfl rfl rfl rfl (by kernel_rfl) (fun w h => ((by first | exact h.ord [2, 3] (by decide) | exact h.ord [3, 4] (by decide) | exact h.ord [4, 5] (by decide)))) (by first | exact (R.idxn rfl rfl rfl Tryz.runUnderlying45 Tryz.sizeOf89 (by omega)) | exact (R.idx rfl rfl rfl Tryz.runUnderlying45 Tryz.sizeOf89 (by omega))) ?_
      refine JD.take 6 rfl rfl rfl rfl (by kernel_rfl) (fun w h => ((by first | exact h.ord [2, 3] (by decide) | exact h.ord [3, 4] (by decide) | exact h.ord [4, 5] (by decide)))) (R.fld (k := 0) rfl rfl Tryz.runUnderlying89 rfl rfl Tryz.sizeOf3) ?_
      refine JD.take 8 rfl rfl rfl rfl (by kernel_rfl) (fun w h => ((by first | exact h.ord [2, 3] (by decide) | exact h.ord [3, 4] (by decide) | exact h.ord [4, 5] (by decide)))) (R.fld (k := 1) rfl rfl Tryz.runUnderlying47 rfl rfl Tryz.sizeOf45) ?_
      refine JD.take 9 rfl rfl rfl rfl (by kernel_rfl) (fun w h => ((by first | exact h.ord [2, 3] (by decide) | exact h.ord [3, 4] (by decide) | exact h.ord [4, 5] (by decide)))) (R.ld rfl rfl Tryz.isAgg45 (fun w h => cellL h 1 rfl rfl)) ?_
      refine JD.take 10 rfl rfl rfl rfl (by kernel_rfl) (fun w h => ((by first | exact h.ord [2, 3] (by decide) | exact h.ord [3, 4] (by decide) | exact h.ord [4, 5] (by decide)))) (R.move rfl rfl) ?_
      refine JD.take 11 rfl rfl rfl rfl (by kernel_rfl) (fun w h => ((by first | exact h.ord [2, 3] (by decide) | exact h.ord [3, 4] (by decide) | exact h.ord [4, 5] (by decide)))) (by first | exact (R.idxn rfl rfl rfl Tryz.runUnderlying45 Tryz.sizeOf89 (by omega)) | exact (R.idx rfl rfl rfl Tryz.runUnderlying45 Tryz.sizeOf89 (by omega))) ?_
      refine JD.take 12 rfl rfl rfl rfl (by kernel_rfl) (fun w h => ((by first | exact h.ord [2, 3] (by decide) | exact h.ord [3, 4] (by decide) | exact h.ord [4, 5] (by decide)))) (R.fld (k := 1) rfl rfl Tryz.runUnderlying89 rfl rfl Tryz.sizeOf22) ?_
      refine JD.take 7 rfl rfl rfl rfl (by kernel_rfl) (fun w h => ((by first | exact h.ord [2, 3] (by decide) | exact h.ord [3, 4] (by decide) | exact h.ord [4, 5] (by decide)))) (R.ld rfl rfl Tryz.isAgg3 (fun w h => cellOld h hu0)) ?_
      refine JD.take 13 rfl rfl rfl rfl (by kernel_rfl) (fun w h => ((by first | exact h.ord [2, 3] (by decide) | exact h.ord [3, 4] (by decide) | exact h.ord [4, 5] (by decide)))) (R.ld rfl rfl Tryz.isAgg22 (fun w h => cellOld h hu1)) ?_
      refine JD.step 14 rfl (by kernel_rfl) ?_
      refine J.callr rfl rfl rfl rfl rfl Tryz.call57 (fun w h => Copied_calls w _ x.2 (h.ba hr) (by omega))  ?_
      rintro v45 r45 ⟨Au, cu, fu, -, -, rfl, rfl⟩
      refine J.nil ⟨(fun _ w h => ((by first | exact h.ord [2, 3] (by decide) | exact h.ord [3, 4] (by decide) | exact h.ord [4, 5] (by decide)))), ?_⟩
      refine JD.take 15 rfl rfl rfl rfl (by kernel_rfl) (fun w h => ((by first | exact h.ord [2, 3] (by decide) | exact h.ord [3, 4] (by decide) | exact h.ord [4, 5] (by decide)))) (R.bld (pl := #[(0, 1), (1, 1)]) (cells := #[_, _]) rfl rfl Tryz.zeroValue89 Tryz.runUnderlying89 (fun w => by kernel_rfl) rfl) ?_
      refine JD.step 16 rfl (by kernel_rfl) ?_
      refine J.blds (vs := [_]) (cells := [_, _]) rfl rfl rfl rfl rfl Tryz.zeroValue89 Tryz.runUnderlying45 Tryz.sizeOf89 rfl rfl rfl rfl (fun b47 => ?_)
      refine J.nil ⟨(fun _ w h => ((by first | exact h.ord [2, 3] (by decide) | exact h.ord [3, 4] (by decide) | exact h.ord [4, 5] (by decide)))), ?_⟩
      refine JD.step 17 rfl (by kernel_rfl) ?_
      refine J.app 2 rfl rfl rfl rfl rfl rfl Tryz.underlying45 inf89 rfl rfl rfl rfl (news := [vi x.1, .slice Au x.2.length cu]) rfl (fun w h hn => srcO h 0 rfl) rfl (by omega) (fun v48 => ?_)
      refine J.fact (fun w h => row_form (h.get 2 rfl)) ?_
      rintro ⟨A22, c22, rfl, -, -⟩
      refine J.nil ⟨(fun _ w h => ((by first | exact h.ord [2, 3] (by decide) | exact h.ord [3, 4] (by decide) | exact h.ord [4, 5] (by decide)))), ?_⟩
      refine JD.take 18 rfl rfl rfl rfl (by kernel_rfl) (fun w h => ((by first | exact h.ord [2, 3] (by decide) | exact h.ord [3, 4] (by decide) | exact h.ord [4, 5] (by decide)))) (R.fld (k := 1) rfl rfl Tryz.runUnderlying47 rfl rfl Tryz.sizeOf45) ?_
      refine JD.step 19 rfl (by kernel_rfl) ?_
      refine J.st1 4 rfl rfl rfl rfl rfl rfl Tryz.sizeOf45 (by first | rfl | assumption | simp [Value.cells, Value.oneCell']) rfl rfl rfl ?_
      refine J.nil ⟨(fun h => by cases h), ?_⟩
      refine JD.done (by kernel_rfl) ?_
      refine C.region ?_
      refine J.move rfl rfl rfl rfl rfl ?_
      refine J.bin rfl rfl rfl rfl rfl rfl (fun w => ra_add (by omega)) ?_
      refine J.asg rfl rfl rfl rfl rfl ?_
      refine J.nil ?_
      refine ⟨rfl, (i + 1, .slice A22 (i + 1) c22, us ++ [.slice Au x.2.length cu], fun b => fq b ∨ fu b), ⟨hlt, by dsimp only; simp [hul]⟩, by dsimp only; omega, (Sub.cons rfl (Sub.cons rfl (Sub.cons rfl (Sub.cons rfl (Sub.nil _))))), fun w h => ?_⟩
      have g1 := (h.ord [1, 3, 2, 4, 5, 6, 7, 8] (by decide)).msnoc
      dsimp only
      rw [take_snoc hx, wcells_snoc _ _ (by rw [hul, List.length_take]; omega), List.map_append]
      exact g1.ord [1, 0, 2, 3, 4, 5, 6] (by decide)
    · have hge : i = d.cache.length := by have := of_decide_eq_false h; omega
      subst hge
      rw [List.take_length]
      refine C.fact (fun w h => row_form (h.get 0 rfl)) ?_
      rintro ⟨A5, c5, rfl, -, -⟩
      refine C.exit rfl ?_
      refine C.seq ?_
      refine C.region ?_
      refine J.ldw 2 rfl rfl rfl rfl rfl Tryz.isAgg47 rfl Tryz.sizeOf47 ?_
      first | refine J.stwc 6 rfl rfl rfl rfl rfl rfl Tryz.sizeOf47 (by first | rfl | assumption | simp [Value.cells, Value.oneCell']) rfl rfl ?_ | refine J.stw 6 rfl rfl rfl rfl rfl rfl Tryz.sizeOf47 (by first | rfl | assumption | simp [Value.cells, Value.oneCell']) rfl rfl ?_
      refine J.nil ?_
      refine C.ret ?_
      exact fin1 rfl (RV.cellw 6 rfl Tryz.isAgg47 rfl Tryz.sizeOf47) (fun w' h => (h.ord [4, 5, 0, 1] (by decide)).retL (List.Sublist.refl _) ⟨A1, c1, A5, c5, vs, us, fp, fq, hul, rfl, rfl⟩)
end Go.Proofs.YtiminmnmeknioaaGreatDoor

/- ref03.padded, last, GetAll. -/
set_option linter.unusedVariables false
namespace Go.Proofs.YtiminmnmeknioaaGreatDoor
open Go Go.RowKit

theorem room_no {len : Nat} {s n : Int} (h : ¬ (0 ≤ s ∧ 0 ≤ n ∧ s ≤ len ∧ n ≤ len - s)) : roomOk len s n = false := decide_eq_false h
theorem padded_calls (w : World) (v : Value) (xs : List UInt8) (hx : BA w v xs) (hl : xs.length ≤ 64) : Calls Tryz.prog 56 #[v] w (Ret w (PB (pad64 xs))) := by
  have hx0 := hx
  obtain ⟨A, c, rfl, h1, h2, h3⟩ := hx.form
  refine calls_of_C Tryz.func56 rfl Tryz.ntmps56 (Nat.le_of_ble_eq_true rfl) ?_
  refine C.less (L' := [(0, _)]) ?_ (Sub.cons rfl (Sub.nil _)) (fun w h => h)
  refine C.seq ?_
  refine C.region ?_
  refine J.asg rfl rfl rfl rfl rfl ?_
  refine J.nil ?_
  refine C.seq ?_
  refine C.region ?_
  refine J.mk rfl rfl rfl rfl rfl rfl (n := 64) rfl rfl  Tryz.underlying22 inf5 rfl  (by omega) (by omega) (fun b5 => ?_)
  refine J.asg rfl rfl rfl rfl rfl ?_
  refine J.nil ?_
  refine C.seq ?_
  refine C.seq ?_
  refine C.region ?_
  refine J.asg rfl rfl rfl rfl rfl ?_
  refine J.nil ?_
  refine C.block ?_
  refine C.loop (σ := Nat) (fun i => i ≤ xs.length) (fun i => [(0, .slice A xs.length c), (3, .slice (some ⟨b5, 0, none⟩) 64 64), (4, vi (i : Int))]) (fun i => [blk b5 ((xs.take i).map vu8 ++ (List.replicate 64 (Value.int .u8 0)).drop i).toArray 5]) (fun i => xs.length - i) 0 (Nat.zero_le _) ?_ ?_ ?_
  · exact (Sub.cons rfl (Sub.cons rfl (Sub.cons rfl (Sub.nil _))))
  · exact fun w h => h
  intro i hi
  dsimp only at hi ⊢
  refine C.seq ?_
  refine C.seq ?_
  refine C.region ?_
  refine J.move rfl rfl rfl rfl rfl ?_
  refine J.move rfl rfl rfl rfl rfl ?_
  refine J.len rfl rfl rfl rfl rfl Tryz.runUnderlying22 ?_
  refine J.bin rfl rfl rfl rfl rfl rfl (fun w => rfl) ?_
  refine J.nil ?_
  refine C.cond rfl (fun h => ?_) (fun h => ?_)
  · have hlt : i < xs.length := by have := of_decide_eq_true h; omega
    obtain ⟨x, hxi⟩ : ∃ x, xs[i]? = some x := ⟨_, List.getElem?_eq_getElem hlt⟩
    obtain ⟨b, o, rfl, hb, hcell⟩ := h3 (by omega)
    refine C.skip ?_
    refine C.seq ?_
    refine C.block ?_
    refine C.region ?_
    refine J.move rfl rfl rfl rfl rfl ?_
    refine J.move rfl rfl rfl rfl rfl ?_
    refine J.move rfl rfl rfl rfl rfl ?_
    refine J.move rfl rfl rfl rfl rfl ?_
    first | refine J.idx1 rfl rfl rfl rfl rfl rfl Tryz.runUnderlying22 Tryz.sizeOf5 (by omega) ?_ | refine J.idx rfl rfl rfl rfl rfl rfl Tryz.runUnderlying22 Tryz.sizeOf5 (by omega) ?_
    refine J.ld rfl rfl rfl rfl rfl Tryz.isAgg5 (fun w h => cellOld h (hcell i x hxi)) ?_
    first | refine J.idx1 rfl rfl rfl rfl rfl rfl Tryz.runUnderlying22 Tryz.sizeOf5 (by omega) ?_ | refine J.idx rfl rfl rfl rfl rfl rfl Tryz.runUnderlying22 Tryz.sizeOf5 (by omega) ?_
    refine J.st1 0 (cs' := ((xs.take (i + 1)).map vu8 ++ (List.replicate 64 (Value.int .u8 0)).drop (i + 1)).toArray) rfl rfl rfl rfl rfl rfl Tryz.sizeOf5 rfl rfl (by rw [Nat.blt_eq, List.size_toArray, List.length_append, List.length_map, List.length_take, List.length_drop, List.length_replicate]; omega) (by rw [List.setIfInBounds_toArray, Nat.zero_add, set_mid (by rw [List.length_map, List.length_take]; omega) (by rw [List.length_replicate]; omega), take_snoc hxi, List.map_append]; rfl) ?_
    refine J.nil ?_
    refine C.region ?_
    refine J.move rfl rfl rfl rfl rfl ?_
    refine J.bin rfl rfl rfl rfl rfl rfl (fun w => ra_add (by omega)) ?_
    refine J.asg rfl rfl rfl rfl rfl ?_
    refine J.nil ?_
    exact ⟨rfl, i + 1, hlt, by omega, (Sub.cons rfl (Sub.cons rfl (Sub.cons rfl (Sub.nil _)))), fun w h => h⟩
  · have hge : i = xs.length := by have := of_decide_eq_false h; omega
    subst hge
    rw [List.take_length]
    refine C.exit rfl ?_
    refine C.seq ?_
    refine C.region ?_
    refine J.move rfl rfl rfl rfl rfl ?_
    refine J.asg rfl rfl rfl rfl rfl ?_
    refine J.nil ?_
    refine C.ret ?_
    exact fin1 rfl (RV.tmp rfl) (fun w' h => retRb (pad_row hl (by rw [List.drop_replicate]) h) 0 rfl)
theorem rlast_calls (w : World) (d : Dk) (sv cv : Value) (s : Int) (hs : BSA w sv d.secs) (hc : WSA w cv d.cache) (hok : dkBad d = false) (h0 : 0 ≤ s) (hsn : s < d.secs.length) : Calls Tryz.prog 82 #[.agg #[sv, cv], vi s] w (Ret w (PB (dkLast d s))) := by
  have hl64 := dkLast_len hok h0 hsn
  obtain ⟨A, c, rfl, h1, h2, h3⟩ := hs.form
  obtain ⟨A2, c2, rfl, k1, k2, k3⟩ := hc.form
  have hlt : s.toNat < d.secs.length := by omega
  obtain ⟨x0, hx0⟩ : ∃ x, d.secs[s.toNat]? = some x := ⟨_, List.getElem?_eq_getElem hlt⟩
  obtain ⟨b, o, rfl, hb, hcell⟩ := h3 (by omega)
  obtain ⟨u0, hu0, hr0⟩ := hcell _ x0 hx0
  have hde : d.secs.getD s.toNat [] = x0 := by rw [List.getD_eq_getElem?_getD, hx0]; rfl
  refine calls_of_C Tryz.func82 rfl Tryz.ntmps82 (Nat.le_of_ble_eq_true rfl) ?_
  refine C.less (L' := [(0, _), (1, _)]) ?_ (Sub.cons rfl (Sub.cons rfl (Sub.nil _))) (fun w h => h)
  refine C.seq ?_
  refine C.region ?_
  first | refine J.boxc rfl rfl rfl rfl rfl rfl (fun b2 => ?_) | refine J.box rfl rfl rfl rfl rfl (fun b2 => ?_)
  refine J.asg rfl rfl rfl rfl rfl ?_
  refine J.nil ?_
  refine C.seq ?_
  refine C.region ?_
  refine J.fld (k := 0) rfl rfl rfl rfl rfl Tryz.runUnderlying47 rfl rfl Tryz.sizeOf44 ?_
  refine J.ldo 0 rfl rfl rfl rfl rfl Tryz.isAgg44 rfl rfl ?_
  refine J.move rfl rfl rfl rfl rfl ?_
  first | refine J.idx1 rfl rfl rfl rfl rfl rfl Tryz.runUnderlying44 Tryz.sizeOf22 (by omega) ?_ | refine J.idx rfl rfl rfl rfl rfl rfl Tryz.runUnderlying44 Tryz.sizeOf22 (by omega) ?_
  refine J.ld rfl rfl rfl rfl rfl Tryz.isAgg22 (fun w h => cellOld h (by rw [Nat.mul_one]; exact hu0)) ?_
  refine J.asg rfl rfl rfl rfl rfl ?_
  refine J.nil ?_
  refine C.seq ?_
  refine C.seq ?_
  refine C.region ?_
  refine J.asg rfl rfl rfl rfl rfl ?_
  refine J.nil ?_
  refine C.block ?_
  refine C.loop (σ := Nat × Value) (fun q => q.1 ≤ d.cache.length ∧ BA w q.2 ((lastW s (d.cache.take q.1)).getD x0)) (fun q => [(1, vi s), (2, .pointer (some ⟨b2, 0, none⟩)), (5, q.2), (6, vi (q.1 : Int))]) (fun q => [blk b2 #[.slice (some ⟨b, o, none⟩) d.secs.length c, .slice A2 d.cache.length c2] 47]) (fun q => d.cache.length - q.1) (0, u0) ⟨Nat.zero_le _, hr0⟩ ?_ ?_ ?_
  · exact (Sub.cons rfl (Sub.cons rfl (Sub.cons rfl (Sub.cons rfl (Sub.nil _)))))
  · exact fun w h => h
  rintro ⟨i, v⟩ ⟨hi, hv⟩
  dsimp only at hi hv ⊢
  refine C.seq ?_
  refine C.seq ?_
  refine C.region ?_
  refine J.move rfl rfl rfl rfl rfl ?_
  refine J.fld (k := 1) rfl rfl rfl rfl rfl Tryz.runUnderlying47 rfl rfl Tryz.sizeOf45 ?_
  refine J.ldo 0 rfl rfl rfl rfl rfl Tryz.isAgg45 rfl rfl ?_
  refine J.len rfl rfl rfl rfl rfl Tryz.runUnderlying45 ?_
  refine J.bin rfl rfl rfl rfl rfl rfl (fun w => rfl) ?_
  refine J.nil ?_
  refine C.cond rfl (fun h => ?_) (fun h => ?_)
  · have hlt : i < d.cache.length := by have := of_decide_eq_true h; omega
    obtain ⟨x, hx⟩ : ∃ x, d.cache[i]? = some x := ⟨_, List.getElem?_eq_getElem hlt⟩
    obtain ⟨bc, oc, rfl, hbc, hcellc⟩ := k3 (by omega)
    obtain ⟨u, hu0, hu1, hr⟩ := hcellc i x hx
    refine C.skip ?_
    refine C.seq ?_
    refine C.block ?_
    refine C.seq ?_
    refine C.region ?_
    refine J.fld (k := 1) rfl rfl rfl rfl rfl Tryz.runUnderlying47 rfl rfl Tryz.sizeOf45 ?_
    refine J.ldo 0 rfl rfl rfl rfl rfl Tryz.isAgg45 rfl rfl ?_
    refine J.move rfl rfl rfl rfl rfl ?_
    first | refine J.idxn rfl rfl rfl rfl rfl rfl Tryz.runUnderlying45 Tryz.sizeOf89 (by omega) ?_ | refine J.idx rfl rfl rfl rfl rfl rfl Tryz.runUnderlying45 Tryz.sizeOf89 (by omega) ?_
    refine J.fld (k := 0) rfl rfl rfl rfl rfl Tryz.runUnderlying89 rfl rfl Tryz.sizeOf3 ?_
    refine J.ld rfl rfl rfl rfl rfl Tryz.isAgg3 (fun w h => cellOld h hu0) ?_
    refine J.move rfl rfl rfl rfl rfl ?_
    refine J.bin rfl rfl rfl rfl rfl rfl (fun w => rfl) ?_
    refine J.nil ?_
    refine C.cond rfl (fun h5 => ?_) (fun h5 => ?_)
    · have h5 : x.1 = s := by simpa using h5
      refine C.region ?_
      refine J.fld (k := 1) rfl rfl rfl rfl rfl Tryz.runUnderlying47 rfl rfl Tryz.sizeOf45 ?_
      refine J.ldo 0 rfl rfl rfl rfl rfl Tryz.isAgg45 rfl rfl ?_
      refine J.move rfl rfl rfl rfl rfl ?_
      first | refine J.idxn rfl rfl rfl rfl rfl rfl Tryz.runUnderlying45 Tryz.sizeOf89 (by omega) ?_ | refine J.idx rfl rfl rfl rfl rfl rfl Tryz.runUnderlying45 Tryz.sizeOf89 (by omega) ?_
      refine J.fld (k := 1) rfl rfl rfl rfl rfl Tryz.runUnderlying89 rfl rfl Tryz.sizeOf22 ?_
      refine J.ld rfl rfl rfl rfl rfl Tryz.isAgg22 (fun w h => cellOld h hu1) ?_
      refine J.asg rfl rfl rfl rfl rfl ?_
      refine J.nil ?_
      refine C.region ?_
      refine J.move rfl rfl rfl rfl rfl ?_
      refine J.bin rfl rfl rfl rfl rfl rfl (fun w => ra_add (by omega)) ?_
      refine J.asg rfl rfl rfl rfl rfl ?_
      refine J.nil ?_
      exact ⟨rfl, (i + 1, u), ⟨hlt, by dsimp only; rw [take_snoc hx, lastW_snoc, if_pos h5]; exact hr⟩, by dsimp only; omega, (Sub.cons rfl (Sub.cons rfl (Sub.cons rfl (Sub.cons rfl (Sub.nil _))))), fun w h => h⟩
    · have h5 : ¬ x.1 = s := by simpa using h5
      refine C.skip ?_
      refine C.region ?_
      refine J.move rfl rfl rfl rfl rfl ?_
      refine J.bin rfl rfl rfl rfl rfl rfl (fun w => ra_add (by omega)) ?_
      refine J.asg rfl rfl rfl rfl rfl ?_
      refine J.nil ?_
      exact ⟨rfl, (i + 1, v), ⟨hlt, by dsimp only; rw [take_snoc hx, lastW_snoc, if_neg h5]; exact hv⟩, by dsimp only; omega, (Sub.cons rfl (Sub.cons rfl (Sub.cons rfl (Sub.cons rfl (Sub.nil _))))), fun w h => h⟩
  · have hge : i = d.cache.length := by have := of_decide_eq_false h; omega
    subst hge
    rw [List.take_length, ← hde] at hv
    refine C.exit rfl ?_
    refine C.seq ?_
    refine C.region ?_
    refine J.move rfl rfl rfl rfl rfl ?_
    refine J.callr rfl rfl rfl rfl rfl Tryz.call57 (fun w h => Copied_calls w v (dkLast d s) (h.ba hv) (by omega))  ?_
    rintro v34 r34 ⟨Au, cu, fu, g1, g2, rfl, rfl⟩
    refine J.asg rfl rfl rfl rfl rfl ?_
    refine J.nil ?_
    refine C.ret ?_
    exact fin1 rfl (RV.tmp rfl) (fun w' h => retRb h 0 rfl)
theorem rGetAll_calls (w : World) (d : Dk) (sv cv : Value) (s n : Int) (hs : BSA w sv d.secs) (hc : WSA w cv d.cache) : Calls Tryz.prog 47 #[.agg #[sv, cv], vi s, vi n] w (Ret w (PBE (dkGetAll d s n).1 (dkGetAll d s n).2)) := by
  have hs0 := hs
  have hc0 := hc
  obtain ⟨As, cs, rfl, hl1, hl2, -⟩ := hs.form
  obtain ⟨Ac, cc, rfl, -, -, -⟩ := hc.form
  refine calls_of_C Tryz.func47 rfl Tryz.ntmps47 (Nat.le_of_ble_eq_true rfl) ?_
  refine C.less (L' := [(0, _), (1, _), (2, _)]) ?_ (Sub.cons rfl (Sub.cons rfl (Sub.cons rfl (Sub.nil _)))) (fun w h => h)
  refine C.seq ?_
  refine C.region ?_
  first | refine J.boxc rfl rfl rfl rfl rfl rfl (fun b3 => ?_) | refine J.box rfl rfl rfl rfl rfl (fun b3 => ?_)
  refine J.asg rfl rfl rfl rfl rfl ?_
  refine J.asg rfl rfl rfl rfl rfl ?_
  refine J.nil ?_
  refine C.seq ?_
  refine C.block ?_
  refine C.seq ?_
  refine C.region ?_
  refine J.ldw 0 rfl rfl rfl rfl rfl Tryz.isAgg47 rfl Tryz.sizeOf47 ?_
  refine J.call0 rfl rfl rfl rfl rfl Tryz.call54 (fun w h => rCheck_dk_calls w d _ _ (h.bsa hs0) (h.wsa hc0)) ?_
  refine J.bin rfl rfl rfl rfl rfl rfl (fun w => rfl) ?_
  refine J.asg rfl rfl rfl rfl rfl ?_
  refine J.nil ?_
  rcases dkErr_cases d with ⟨hb, he⟩ | ⟨hb, he⟩
  · rw [show dkGetAll d s n = ([], 9) by unfold dkGetAll; rw [if_pos hb], he]
    refine C.cond_t rfl ?_
    refine C.seq ?_
    refine C.region ?_
    refine J.asg rfl rfl rfl rfl rfl ?_
    refine J.asg rfl rfl rfl rfl rfl ?_
    refine J.nil ?_
    refine C.ret ?_
    exact fin2 rfl (RV.tmp rfl) (RV.tmp rfl) (fun w' h => retNilBE h)
  · obtain ⟨⟨hs1, hs2⟩, hc1, hsl, hcl⟩ := dkOk hb
    rw [he]
    refine C.cond_f rfl ?_
    refine C.seq ?_
    refine C.region ?_
    refine J.move rfl rfl rfl rfl rfl ?_
    refine J.bin rfl rfl rfl rfl rfl rfl (fun w => rfl) ?_
    refine J.move rfl rfl rfl rfl rfl ?_
    rcases Decidable.em (s < 0) with e1 | e1
    · rw [dec_t e1]
      refine J.pass rfl rfl rfl rfl rfl (by intro h; cases h) ?_
      refine J.pass rfl rfl rfl rfl rfl (by intro h; cases h) ?_
      refine J.pick rfl rfl rfl rfl rfl rfl ?_
      refine J.move rfl rfl rfl rfl rfl ?_
      refine J.pass rfl rfl rfl rfl rfl (by intro h; cases h) ?_
      refine J.pass rfl rfl rfl rfl rfl (by intro h; cases h) ?_
      refine J.pass rfl rfl rfl rfl rfl (by intro h; cases h) ?_
      refine J.pass rfl rfl rfl rfl rfl (by intro h; cases h) ?_
      refine J.pass rfl rfl rfl rfl rfl (by intro h; cases h) ?_
      refine J.pick rfl rfl rfl rfl rfl rfl ?_
      refine J.move rfl rfl rfl rfl rfl ?_
      refine J.pass rfl rfl rfl rfl rfl (by intro h; cases h) ?_
      refine J.pass rfl rfl rfl rfl rfl (by intro h; cases h) ?_
      refine J.pass rfl rfl rfl rfl rfl (by intro h; cases h) ?_
      refine J.pass rfl rfl rfl rfl rfl (by intro h; cases h) ?_
      refine J.pass rfl rfl rfl rfl rfl (by intro h; cases h) ?_
      refine J.pass rfl rfl rfl rfl rfl (by intro h; cases h) ?_
      refine J.pass rfl rfl rfl rfl rfl (by intro h; cases h) ?_
      refine J.pick rfl rfl rfl rfl rfl rfl ?_
      refine J.asg rfl rfl rfl rfl rfl ?_
      refine J.nil ?_
      refine C.cond_t rfl ?_
      refine C.seq ?_
      refine C.region ?_
      refine J.asg rfl rfl rfl rfl rfl ?_
      refine J.asg rfl rfl rfl rfl rfl ?_
      refine J.nil ?_
      refine C.ret ?_
      rw [show dkGetAll d s n = ([], 41) by unfold dkGetAll; rw [if_neg (by rw [hb]; simp), if_pos (room_no (by omega))]]
      exact fin2 rfl (RV.tmp rfl) (RV.tmp rfl) (fun w' h => retNilBE h)
    · rw [dec_f e1]
      refine J.want rfl rfl rfl rfl ?_
      refine J.move rfl rfl rfl rfl rfl ?_
      refine J.want rfl rfl rfl rfl ?_
      refine J.bin rfl rfl rfl rfl rfl rfl (fun w => rfl) ?_
      refine J.pick rfl rfl rfl rfl rfl rfl ?_
      refine J.move rfl rfl rfl rfl rfl ?_
      rcases Decidable.em (n < 0) with e2 | e2
      · rw [dec_t e2]
        refine J.pass rfl rfl rfl rfl rfl (by intro h; cases h) ?_
        refine J.pass rfl rfl rfl rfl rfl (by intro h; cases h) ?_
        refine J.pass rfl rfl rfl rfl rfl (by intro h; cases h) ?_
        refine J.pass rfl rfl rfl rfl rfl (by intro h; cases h) ?_
        refine J.pass rfl rfl rfl rfl rfl (by intro h; cases h) ?_
        refine J.pick rfl rfl rfl rfl rfl rfl ?_
        refine J.move rfl rfl rfl rfl rfl ?_
        refine J.pass rfl rfl rfl rfl rfl (by intro h; cases h) ?_
        refine J.pass rfl rfl rfl rfl rfl (by intro h; cases h) ?_
        refine J.pass rfl rfl rfl rfl rfl (by intro h; cases h) ?_
        refine J.pass rfl rfl rfl rfl rfl (by intro h; cases h) ?_
        refine J.pass rfl rfl rfl rfl rfl (by intro h; cases h) ?_
        refine J.pass rfl rfl rfl rfl rfl (by intro h; cases h) ?_
        refine J.pass rfl rfl rfl rfl rfl (by intro h; cases h) ?_
        refine J.pick rfl rfl rfl rfl rfl rfl ?_
        refine J.asg rfl rfl rfl rfl rfl ?_
        refine J.nil ?_
        refine C.cond_t rfl ?_
        refine C.seq ?_
        refine C.region ?_
        refine J.asg rfl rfl rfl rfl rfl ?_
        refine J.asg rfl rfl rfl rfl rfl ?_
        refine J.nil ?_
        refine C.ret ?_
        rw [show dkGetAll d s n = ([], 41) by unfold dkGetAll; rw [if_neg (by rw [hb]; simp), if_pos (room_no (by omega))]]
        exact fin2 rfl (RV.tmp rfl) (RV.tmp rfl) (fun w' h => retNilBE h)
      · rw [dec_f e2]
        refine J.want rfl rfl rfl rfl ?_
        refine J.move rfl rfl rfl rfl rfl ?_
        refine J.want rfl rfl rfl rfl ?_
        refine J.fld (k := 0) rfl rfl rfl rfl rfl Tryz.runUnderlying47 rfl rfl Tryz.sizeOf44 ?_
        refine J.want rfl rfl rfl rfl ?_
        refine J.ldo 0 rfl rfl rfl rfl rfl Tryz.isAgg44 rfl rfl ?_
        refine J.want rfl rfl rfl rfl ?_
        refine J.len rfl rfl rfl rfl rfl Tryz.runUnderlying44 ?_
        refine J.want rfl rfl rfl rfl ?_
        refine J.bin rfl rfl rfl rfl rfl rfl (fun w => rfl) ?_
        refine J.pick rfl rfl rfl rfl rfl rfl ?_
        refine J.move rfl rfl rfl rfl rfl ?_
        rcases Decidable.em (s > d.secs.length) with e3 | e3
        · rw [dec_t e3]
          refine J.pass rfl rfl rfl rfl rfl (by intro h; cases h) ?_
          refine J.pass rfl rfl rfl rfl rfl (by intro h; cases h) ?_
          refine J.pass rfl rfl rfl rfl rfl (by intro h; cases h) ?_
          refine J.pass rfl rfl rfl rfl rfl (by intro h; cases h) ?_
          refine J.pass rfl rfl rfl rfl rfl (by intro h; cases h) ?_
          refine J.pass rfl rfl rfl rfl rfl (by intro h; cases h) ?_
          refine J.pass rfl rfl rfl rfl rfl (by intro h; cases h) ?_
          refine J.pick rfl rfl rfl rfl rfl rfl ?_
          refine J.asg rfl rfl rfl rfl rfl ?_
          refine J.nil ?_
          refine C.cond_t rfl ?_
          refine C.seq ?_
          refine C.region ?_
          refine J.asg rfl rfl rfl rfl rfl ?_
          refine J.asg rfl rfl rfl rfl rfl ?_
          refine J.nil ?_
          refine C.ret ?_
          rw [show dkGetAll d s n = ([], 41) by unfold dkGetAll; rw [if_neg (by rw [hb]; simp), if_pos (room_no (by omega))]]
          exact fin2 rfl (RV.tmp rfl) (RV.tmp rfl) (fun w' h => retNilBE h)
        · rw [dec_f e3]
          refine J.want rfl rfl rfl rfl ?_
          refine J.move rfl rfl rfl rfl rfl ?_
          refine J.want rfl rfl rfl rfl ?_
          refine J.fld (k := 0) rfl rfl rfl rfl rfl Tryz.runUnderlying47 rfl rfl Tryz.sizeOf44 ?_
          refine J.want rfl rfl rfl rfl ?_
          refine J.ldo 0 rfl rfl rfl rfl rfl Tryz.isAgg44 rfl rfl ?_
          refine J.want rfl rfl rfl rfl ?_
          refine J.len rfl rfl rfl rfl rfl Tryz.runUnderlying44 ?_
          refine J.want rfl rfl rfl rfl ?_
          refine J.move rfl rfl rfl rfl rfl ?_
          refine J.want rfl rfl rfl rfl ?_
          refine J.bin rfl rfl rfl rfl rfl rfl (fun w => ra_sub (by omega)) ?_
          refine J.want rfl rfl rfl rfl ?_
          refine J.bin rfl rfl rfl rfl rfl rfl (fun w => rfl) ?_
          refine J.pick rfl rfl rfl rfl rfl rfl ?_
          refine J.asg rfl rfl rfl rfl rfl ?_
          refine J.nil ?_
          refine C.cond rfl (fun h => ?_) (fun h => ?_)
          · have h := of_decide_eq_true h
            refine C.seq ?_
            refine C.region ?_
            refine J.asg rfl rfl rfl rfl rfl ?_
            refine J.asg rfl rfl rfl rfl rfl ?_
            refine J.nil ?_
            refine C.ret ?_
            rw [show dkGetAll d s n = ([], 41) by unfold dkGetAll; rw [if_neg (by rw [hb]; simp), if_pos (room_no (by omega))]]
            exact fin2 rfl (RV.tmp rfl) (RV.tmp rfl) (fun w' h => retNilBE h)
          · have h := of_decide_eq_false h
            have hr : roomOk d.secs.length s n = true := decide_eq_true (by omega)
            rw [show dkGetAll d s n = (lasts d s n.toNat, 0) by unfold dkGetAll; rw [if_neg (by rw [hb]; simp), if_neg (by rw [hr]; simp)]]
            refine C.skip ?_
            refine C.seq ?_
            refine C.region ?_
            refine J.asg rfl rfl rfl rfl rfl ?_
            refine J.nil ?_
            refine C.seq ?_
            refine C.seq ?_
            refine C.region ?_
            refine J.asg rfl rfl rfl rfl rfl ?_
            refine J.nil ?_
            refine C.block ?_
            refine C.loop (σ := Nat × Value) (fun q => (q.1 : Int) ≤ n) (fun q => [(3, .pointer (some ⟨b3, 0, none⟩)), (1, vi s), (2, vi n), (8, q.2), (9, vi (q.1 : Int))]) (fun q => [rowR 5 1 q.2 (64 * q.1) ((lasts d s q.1).map vu8), blk b3 #[.slice As d.secs.length cs, .slice Ac d.cache.length cc] 47]) (fun q => n.toNat - q.1) (0, .slice none 0 0) (by show (0 : Int) ≤ n; omega) ?_ ?_ ?_
            · exact (Sub.cons rfl (Sub.cons rfl (Sub.cons rfl (Sub.cons rfl (Sub.cons rfl (Sub.nil _))))))
            · exact fun w h => h.nilRow _ _
            rintro ⟨i, v⟩ hi
            dsimp only at hi ⊢
            refine C.seq ?_
            refine C.seq ?_
            refine C.region ?_
            refine J.move rfl rfl rfl rfl rfl ?_
            refine J.move rfl rfl rfl rfl rfl ?_
            refine J.bin rfl rfl rfl rfl rfl rfl (fun w => rfl) ?_
            refine J.nil ?_
            refine C.cond rfl (fun h5 => ?_) (fun h5 => ?_)
            · have hlt : (i : Int) < n := of_decide_eq_true h5
              have hl64 : (dkLast d (s + i)).length = 64 := dkLast_len hb (by omega) (by omega)
              refine C.skip ?_
              refine C.seq ?_
              refine C.block ?_
              refine C.region ?_
              refine J.move rfl rfl rfl rfl rfl ?_
              refine J.ldw 1 rfl rfl rfl rfl rfl Tryz.isAgg47 rfl Tryz.sizeOf47 ?_
              refine J.move rfl rfl rfl rfl rfl ?_
              refine J.move rfl rfl rfl rfl rfl ?_
              refine J.bin rfl rfl rfl rfl rfl rfl (fun w => ra_add (by omega)) ?_
              refine J.callr rfl rfl rfl rfl rfl Tryz.call82 (fun w h => rlast_calls w d _ _ (s + i) (h.bsa hs0) (h.wsa hc0) hb (by omega) (by omega))  ?_
              rintro v47 r47 ⟨Av, cv', fv, -, -, rfl, rfl⟩
              refine J.app 1 rfl rfl rfl rfl rfl rfl Tryz.underlying22 inf5 rfl rfl rfl rfl (news := (dkLast d (s + i)).map vu8) (by simp) (fun w' h hn => srcB (h.get 0 rfl) hn) (all_u8 _) (by omega) (fun v48 => ?_)
              refine J.asg rfl rfl rfl rfl rfl ?_
              refine J.nil ?_
              refine C.region ?_
              refine J.move rfl rfl rfl rfl rfl ?_
              refine J.bin rfl rfl rfl rfl rfl rfl (fun w => ra_add (by omega)) ?_
              refine J.asg rfl rfl rfl rfl rfl ?_
              refine J.nil ?_
              refine ⟨rfl, (i + 1, v48), by dsimp only; omega, by dsimp only; omega, (Sub.cons rfl (Sub.cons rfl (Sub.cons rfl (Sub.cons rfl (Sub.cons rfl (Sub.nil _)))))), fun w h => ?_⟩
              dsimp only
              rw [lasts_succ, List.map_append, show 64 * (i + 1) = 64 * i + (dkLast d (s + i)).length by omega]
              exact h.ord [1, 2] (by decide)
            · have hin : n.toNat = i := by have := of_decide_eq_false h5; omega
              rw [hin]
              refine C.exit rfl ?_
              refine C.seq ?_
              refine C.region ?_
              refine J.move rfl rfl rfl rfl rfl ?_
              refine J.asg rfl rfl rfl rfl rfl ?_
              refine J.asg rfl rfl rfl rfl rfl ?_
              refine J.nil ?_
              refine C.ret ?_
              refine fin2 rfl (RV.tmp rfl) (RV.tmp rfl) (fun w' h => ?_)
              exact retRbE (row_rb h rfl) 0 rfl
end Go.Proofs.YtiminmnmeknioaaGreatDoor

/- ref03.PutAll. -/
set_option linter.unusedVariables false
namespace Go.Proofs.YtiminmnmeknioaaGreatDoor
open Go Go.RowKit

theorem rPutAll_calls (w : World) (d : Dk) (sv cv dv : Value) (s : Int) (data : List UInt8) (hs : BSA w sv d.secs) (hc : WSA w cv d.cache) (hx : BA w dv data) (hl : data.length ≤ 140737488355328) : Calls Tryz.prog 31 #[.agg #[sv, cv], vi s, dv] w (RetL No w (PRk (dkPutAll d s data).1 (dkPutAll d s data).2)) := by
  have hs0 := hs
  have hc0 := hc
  have hx0 := hx
  obtain ⟨As, cs, rfl, hl1, hl2, -⟩ := hs.form
  obtain ⟨Ac, cc, rfl, -, -, -⟩ := hc.form
  obtain ⟨A, c, rfl, hdc, hdc2, -⟩ := hx.form
  have hnc : nch data = (data.length + 63) / 64 := rfl
  refine calls_of_C Tryz.func31 rfl Tryz.ntmps31 (Nat.le_of_ble_eq_true rfl) ?_
  refine C.less (L' := [(0, _), (1, _), (2, _)]) ?_ (Sub.cons rfl (Sub.cons rfl (Sub.cons rfl (Sub.nil _)))) (fun w h => h)
  refine C.seq ?_
  refine C.region ?_
  first | refine J.boxc rfl rfl rfl rfl rfl rfl (fun b3 => ?_) | refine J.box rfl rfl rfl rfl rfl (fun b3 => ?_)
  refine J.allocc rfl rfl rfl rfl Tryz.zeroValue47 rfl (fun b6 => ?_)
  refine J.asg rfl rfl rfl rfl rfl ?_
  refine J.nil ?_
  refine C.seq ?_
  refine C.region ?_
  refine J.move rfl rfl rfl rfl rfl ?_
  refine J.len rfl rfl rfl rfl rfl Tryz.runUnderlying22 ?_
  refine J.bin rfl rfl rfl rfl rfl rfl (fun w => ra_add (by omega)) ?_
  refine J.bin rfl rfl rfl rfl rfl rfl (fun w => ra_sub (by omega)) ?_
  refine J.bin rfl rfl rfl rfl rfl rfl (fun w => quo64 _ (by omega)) ?_
  refine J.asg rfl rfl rfl rfl rfl ?_
  refine J.nil ?_
  refine C.seq ?_
  refine C.block ?_
  refine C.seq ?_
  refine C.region ?_
  refine J.ldw 1 rfl rfl rfl rfl rfl Tryz.isAgg47 rfl Tryz.sizeOf47 ?_
  refine J.call0 rfl rfl rfl rfl rfl Tryz.call54 (fun w h => rCheck_dk_calls w d _ _ (h.bsa hs0) (h.wsa hc0)) ?_
  refine J.bin rfl rfl rfl rfl rfl rfl (fun w => rfl) ?_
  refine J.asg rfl rfl rfl rfl rfl ?_
  refine J.nil ?_
  rw [← hnc]
  rcases dkErr_cases d with ⟨hb, he⟩ | ⟨hb, he⟩
  · rw [show dkPutAll d s data = (dk0, 9) by unfold dkPutAll; rw [if_pos hb], he]
    refine C.cond_t rfl ?_
    refine C.seq ?_
    refine C.region ?_
    refine J.bld (pl := #[(0, 1), (1, 1)]) (cells := #[_, _]) rfl rfl rfl rfl rfl Tryz.zeroValue47 Tryz.runUnderlying47 (fun w => by kernel_rfl) rfl ?_
    first | refine J.stwc 0 rfl rfl rfl rfl rfl rfl Tryz.sizeOf47 (by first | rfl | assumption | simp [Value.cells, Value.oneCell']) rfl rfl ?_ | refine J.stw 0 rfl rfl rfl rfl rfl rfl Tryz.sizeOf47 (by first | rfl | assumption | simp [Value.cells, Value.oneCell']) rfl rfl ?_
    refine J.asg rfl rfl rfl rfl rfl ?_
    refine J.nil ?_
    refine C.ret ?_
    exact fin2 rfl (RV.cellw 0 rfl Tryz.isAgg47 rfl Tryz.sizeOf47) (RV.tmp rfl) (fun w' h => retRkZ h)
  · obtain ⟨⟨hs1, hs2⟩, hc1, hsl, hcl⟩ := dkOk hb
    rw [he]
    refine C.cond_f rfl ?_
    refine C.seq ?_
    refine C.region ?_
    refine J.move rfl rfl rfl rfl rfl ?_
    refine J.bin rfl rfl rfl rfl rfl rfl (fun w => rfl) ?_
    refine J.move rfl rfl rfl rfl rfl ?_
    rcases Decidable.em (s < 0) with e1 | e1
    · rw [dec_t e1]
      refine J.pass rfl rfl rfl rfl rfl (by intro h; cases h) ?_
      refine J.pass rfl rfl rfl rfl rfl (by intro h; cases h) ?_
      refine J.pass rfl rfl rfl rfl rfl (by intro h; cases h) ?_
      refine J.pass rfl rfl rfl rfl rfl (by intro h; cases h) ?_
      refine J.pass rfl rfl rfl rfl rfl (by intro h; cases h) ?_
      refine J.pick rfl rfl rfl rfl rfl rfl ?_
      refine J.move rfl rfl rfl rfl rfl ?_
      refine J.pass rfl rfl rfl rfl rfl (by intro h; cases h) ?_
      refine J.pass rfl rfl rfl rfl rfl (by intro h; cases h) ?_
      refine J.pass rfl rfl rfl rfl rfl (by intro h; cases h) ?_
      refine J.pass rfl rfl rfl rfl rfl (by intro h; cases h) ?_
      refine J.pass rfl rfl rfl rfl rfl (by intro h; cases h) ?_
      refine J.pass rfl rfl rfl rfl rfl (by intro h; cases h) ?_
      refine J.pass rfl rfl rfl rfl rfl (by intro h; cases h) ?_
      refine J.pick rfl rfl rfl rfl rfl rfl ?_
      refine J.asg rfl rfl rfl rfl rfl ?_
      refine J.nil ?_
      refine C.cond_t rfl ?_
      refine C.seq ?_
      refine C.region ?_
      refine J.bld (pl := #[(0, 1), (1, 1)]) (cells := #[_, _]) rfl rfl rfl rfl rfl Tryz.zeroValue47 Tryz.runUnderlying47 (fun w => by kernel_rfl) rfl ?_
      first | refine J.stwc 0 rfl rfl rfl rfl rfl rfl Tryz.sizeOf47 (by first | rfl | assumption | simp [Value.cells, Value.oneCell']) rfl rfl ?_ | refine J.stw 0 rfl rfl rfl rfl rfl rfl Tryz.sizeOf47 (by first | rfl | assumption | simp [Value.cells, Value.oneCell']) rfl rfl ?_
      refine J.asg rfl rfl rfl rfl rfl ?_
      refine J.nil ?_
      refine C.ret ?_
      rw [show dkPutAll d s data = (dk0, 41) by unfold dkPutAll; rw [if_neg (by rw [hb]; simp), if_pos (room_no (by omega))]]
      exact fin2 rfl (RV.cellw 0 rfl Tryz.isAgg47 rfl Tryz.sizeOf47) (RV.tmp rfl) (fun w' h => retRkZ h)
    · rw [dec_f e1]
      refine J.want rfl rfl rfl rfl ?_
      refine J.move rfl rfl rfl rfl rfl ?_
      refine J.want rfl rfl rfl rfl ?_
      refine J.fld (k := 0) rfl rfl rfl rfl rfl Tryz.runUnderlying47 rfl rfl Tryz.sizeOf44 ?_
      refine J.want rfl rfl rfl rfl ?_
      refine J.ldo 1 rfl rfl rfl rfl rfl Tryz.isAgg44 rfl rfl ?_
      refine J.want rfl rfl rfl rfl ?_
      refine J.len rfl rfl rfl rfl rfl Tryz.runUnderlying44 ?_
      refine J.want rfl rfl rfl rfl ?_
      refine J.bin rfl rfl rfl rfl rfl rfl (fun w => rfl) ?_
      refine J.pick rfl rfl rfl rfl rfl rfl ?_
      refine J.move rfl rfl rfl rfl rfl ?_
      rcases Decidable.em (s > d.secs.length) with e3 | e3
      · rw [dec_t e3]
        refine J.pass rfl rfl rfl rfl rfl (by intro h; cases h) ?_
        refine J.pass rfl rfl rfl rfl rfl (by intro h; cases h) ?_
        refine J.pass rfl rfl rfl rfl rfl (by intro h; cases h) ?_
        refine J.pass rfl rfl rfl rfl rfl (by intro h; cases h) ?_
        refine J.pass rfl rfl rfl rfl rfl (by intro h; cases h) ?_
        refine J.pass rfl rfl rfl rfl rfl (by intro h; cases h) ?_
        refine J.pass rfl rfl rfl rfl rfl (by intro h; cases h) ?_
        refine J.pick rfl rfl rfl rfl rfl rfl ?_
        refine J.asg rfl rfl rfl rfl rfl ?_
        refine J.nil ?_
        refine C.cond_t rfl ?_
        refine C.seq ?_
        refine C.region ?_
        refine J.bld (pl := #[(0, 1), (1, 1)]) (cells := #[_, _]) rfl rfl rfl rfl rfl Tryz.zeroValue47 Tryz.runUnderlying47 (fun w => by kernel_rfl) rfl ?_
        first | refine J.stwc 0 rfl rfl rfl rfl rfl rfl Tryz.sizeOf47 (by first | rfl | assumption | simp [Value.cells, Value.oneCell']) rfl rfl ?_ | refine J.stw 0 rfl rfl rfl rfl rfl rfl Tryz.sizeOf47 (by first | rfl | assumption | simp [Value.cells, Value.oneCell']) rfl rfl ?_
        refine J.asg rfl rfl rfl rfl rfl ?_
        refine J.nil ?_
        refine C.ret ?_
        rw [show dkPutAll d s data = (dk0, 41) by unfold dkPutAll; rw [if_neg (by rw [hb]; simp), if_pos (room_no (by omega))]]
        exact fin2 rfl (RV.cellw 0 rfl Tryz.isAgg47 rfl Tryz.sizeOf47) (RV.tmp rfl) (fun w' h => retRkZ h)
      · rw [dec_f e3]
        refine J.want rfl rfl rfl rfl ?_
        refine J.move rfl rfl rfl rfl rfl ?_
        refine J.want rfl rfl rfl rfl ?_
        refine J.fld (k := 0) rfl rfl rfl rfl rfl Tryz.runUnderlying47 rfl rfl Tryz.sizeOf44 ?_
        refine J.want rfl rfl rfl rfl ?_
        refine J.ldo 1 rfl rfl rfl rfl rfl Tryz.isAgg44 rfl rfl ?_
        refine J.want rfl rfl rfl rfl ?_
        refine J.len rfl rfl rfl rfl rfl Tryz.runUnderlying44 ?_
        refine J.want rfl rfl rfl rfl ?_
        refine J.move rfl rfl rfl rfl rfl ?_
        refine J.want rfl rfl rfl rfl ?_
        refine J.bin rfl rfl rfl rfl rfl rfl (fun w => ra_sub (by omega)) ?_
        refine J.want rfl rfl rfl rfl ?_
        refine J.bin rfl rfl rfl rfl rfl rfl (fun w => rfl) ?_
        refine J.pick rfl rfl rfl rfl rfl rfl ?_
        refine J.asg rfl rfl rfl rfl rfl ?_
        refine J.nil ?_
        refine C.cond rfl (fun h => ?_) (fun h => ?_)
        · have h := of_decide_eq_true h
          refine C.seq ?_
          refine C.region ?_
          refine J.bld (pl := #[(0, 1), (1, 1)]) (cells := #[_, _]) rfl rfl rfl rfl rfl Tryz.zeroValue47 Tryz.runUnderlying47 (fun w => by kernel_rfl) rfl ?_
          first | refine J.stwc 0 rfl rfl rfl rfl rfl rfl Tryz.sizeOf47 (by first | rfl | assumption | simp [Value.cells, Value.oneCell']) rfl rfl ?_ | refine J.stw 0 rfl rfl rfl rfl rfl rfl Tryz.sizeOf47 (by first | rfl | assumption | simp [Value.cells, Value.oneCell']) rfl rfl ?_
          refine J.asg rfl rfl rfl rfl rfl ?_
          refine J.nil ?_
          refine C.ret ?_
          rw [show dkPutAll d s data = (dk0, 41) by unfold dkPutAll; rw [if_neg (by rw [hb]; simp), if_pos (room_no (by omega))]]
          exact fin2 rfl (RV.cellw 0 rfl Tryz.isAgg47 rfl Tryz.sizeOf47) (RV.tmp rfl) (fun w' h => retRkZ h)
        · have h := of_decide_eq_false h
          have hr : roomOk d.secs.length s (nch data) = true := decide_eq_true (by omega)
          refine C.seq ?_
          refine C.region ?_
          refine J.fld (k := 1) rfl rfl rfl rfl rfl Tryz.runUnderlying47 rfl rfl Tryz.sizeOf45 ?_
          refine J.ldo 1 rfl rfl rfl rfl rfl Tryz.isAgg45 rfl rfl ?_
          refine J.len rfl rfl rfl rfl rfl Tryz.runUnderlying45 ?_
          refine J.move rfl rfl rfl rfl rfl ?_
          refine J.bin rfl rfl rfl rfl rfl rfl (fun w => ra_add (by omega)) ?_
          refine J.bin rfl rfl rfl rfl rfl rfl (fun w => rfl) ?_
          refine J.asg rfl rfl rfl rfl rfl ?_
          refine J.nil ?_
          refine C.cond rfl (fun h4 => ?_) (fun h4 => ?_)
          · have h4 := of_decide_eq_true h4
            rw [show dkPutAll d s data = (dk0, 51) by unfold dkPutAll; rw [if_neg (by rw [hb]; simp), if_neg (by rw [hr]; simp), if_pos (by omega)]]
            refine C.seq ?_
            refine C.region ?_
            refine J.bld (pl := #[(0, 1), (1, 1)]) (cells := #[_, _]) rfl rfl rfl rfl rfl Tryz.zeroValue47 Tryz.runUnderlying47 (fun w => by kernel_rfl) rfl ?_
            first | refine J.stwc 0 rfl rfl rfl rfl rfl rfl Tryz.sizeOf47 (by first | rfl | assumption | simp [Value.cells, Value.oneCell']) rfl rfl ?_ | refine J.stw 0 rfl rfl rfl rfl rfl rfl Tryz.sizeOf47 (by first | rfl | assumption | simp [Value.cells, Value.oneCell']) rfl rfl ?_
            refine J.asg rfl rfl rfl rfl rfl ?_
            refine J.nil ?_
            refine C.ret ?_
            exact fin2 rfl (RV.cellw 0 rfl Tryz.isAgg47 rfl Tryz.sizeOf47) (RV.tmp rfl) (fun w' h => retRkZ h)
          · have h4 := of_decide_eq_false h4
            rw [show dkPutAll d s data = (dkPut d s data, 0) by unfold dkPutAll; rw [if_neg (by rw [hb]; simp), if_neg (by rw [hr]; simp), if_neg (by omega)]]
            refine C.skip ?_
            refine C.seq ?_
            refine C.region ?_
            refine J.ldw 1 rfl rfl rfl rfl rfl Tryz.isAgg47 rfl Tryz.sizeOf47 ?_
            refine J.callrl rfl rfl rfl rfl rfl Tryz.call55 (fun w h => Own_calls w d _ _ (h.bsa hs0) (h.wsa hc0) hb)  ?_
            rintro v50 R50 ⟨A1, c1, A2, c2, vs, us, fp1, fp2, hul0, rfl, rfl⟩
            refine J.allocc rfl rfl rfl rfl Tryz.zeroValue47 rfl (fun b9 => ?_)
            first | refine J.stwc 0 rfl rfl rfl rfl rfl rfl Tryz.sizeOf47 (by first | rfl | assumption | simp [Value.cells, Value.oneCell']) rfl rfl ?_ | refine J.stw 0 rfl rfl rfl rfl rfl rfl Tryz.sizeOf47 (by first | rfl | assumption | simp [Value.cells, Value.oneCell']) rfl rfl ?_
            refine J.nil ?_
            refine C.seq ?_
            refine C.seq ?_
            refine C.region ?_
            refine J.asg rfl rfl rfl rfl rfl ?_
            refine J.nil ?_
            refine C.block ?_
            refine C.loop (σ := Nat × Option Addr × Nat × List Value × (Nat → Prop)) (fun q => q.1 ≤ nch data ∧ q.2.2.2.1.length = d.cache.length + q.1) (fun q => [(1, vi s), (2, .slice A data.length c), (6, .pointer (some ⟨b6, 0, none⟩)), (8, vi (nch data : Int)), (9, .pointer (some ⟨b9, 0, none⟩)), (10, vi (q.1 : Int))]) (fun q => [rowR 89 2 (.slice q.2.1 (d.cache.length + q.1) q.2.2.1) (d.cache.length + q.1) (wcells (d.cache ++ putW s data q.1) q.2.2.2.1), mR q.2.2.2.2 q.2.2.2.1 ((d.cache ++ putW s data q.1).map (·.2)), blk b9 #[.slice A1 d.secs.length c1, .slice q.2.1 (d.cache.length + q.1) q.2.2.1] 47, rowR 22 1 (.slice A1 d.secs.length c1) d.secs.length vs, mR fp1 vs d.secs, blk b6 #[.slice none 0 0, .slice none 0 0] 47]) (fun q => nch data - q.1) (0, A2, c2, us, fp2) ⟨Nat.zero_le _, hul0⟩ ?_ ?_ ?_
            · exact (Sub.cons rfl (Sub.cons rfl (Sub.cons rfl (Sub.cons rfl (Sub.cons rfl (Sub.cons rfl (Sub.nil _)))))))
            · exact fun w h => by dsimp only; rw [show putW s data 0 = [] from rfl, List.append_nil]; exact h.ord [3, 4, 0, 1, 2, 5] (by decide)
            rintro ⟨i, A5, c5, us, fq⟩ ⟨hi, hul⟩
            dsimp only at hi hul ⊢
            refine C.seq ?_
            refine C.seq ?_
            refine C.region ?_
            refine J.move rfl rfl rfl rfl rfl ?_
            refine J.move rfl rfl rfl rfl rfl ?_
            refine J.bin rfl rfl rfl rfl rfl rfl (fun w => rfl) ?_
            refine J.nil ?_
            refine C.cond rfl (fun h5 => ?_) (fun h5 => ?_)
            · have hlt : i < nch data := by have := of_decide_eq_true h5; omega
              refine C.skip ?_
              refine C.seq ?_
              refine C.block ?_
              refine C.regionD (fun w' => St No w [blk b9 #[.slice A1 d.secs.length c1, .slice A5 (d.cache.length + i) c5] 47] w') 20 (by kernel_rfl) ?_
              refine JD.take 0 rfl rfl rfl rfl (by kernel_rfl) (fun w h => ((by first | exact h.pick 2 rfl | exact h.pick 3 rfl | exact h.pick 4 rfl))) (R.fld (k := 1) rfl rfl Tryz.runUnderlying47 rfl rfl Tryz.sizeOf45) ?_
              refine JD.take 1 rfl rfl rfl rfl (by kernel_rfl) (fun w h => ((by first | exact h.pick 2 rfl | exact h.pick 3 rfl | exact h.pick 4 rfl))) (R.ld rfl rfl Tryz.isAgg45 (fun w h => cellL h 0 rfl rfl)) ?_
              refine JD.take 2 rfl rfl rfl rfl (by kernel_rfl) (fun w h => ((by first | exact h.pick 2 rfl | exact h.pick 3 rfl | exact h.pick 4 rfl))) (R.move rfl rfl) ?_
              refine JD.take 3 rfl rfl rfl rfl (by kernel_rfl) (fun w h => ((by first | exact h.pick 2 rfl | exact h.pick 3 rfl | exact h.pick 4 rfl))) (R.move rfl rfl) ?_
              refine JD.take 4 rfl rfl rfl rfl (by kernel_rfl) (fun w h => ((by first | exact h.pick 2 rfl | exact h.pick 3 rfl | exact h.pick 4 rfl))) (R.bin rfl rfl rfl (fun w => ra_add (by omega))) ?_
              refine JD.take 5 rfl rfl rfl rfl (by kernel_rfl) (fun w h => ((by first | exact h.pick 2 rfl | exact h.pick 3 rfl | exact h.pick 4 rfl))) (R.move rfl rfl) ?_
              refine JD.take 6 rfl rfl rfl rfl (by kernel_rfl) (fun w h => ((by first | exact h.pick 2 rfl | exact h.pick 3 rfl | exact h.pick 4 rfl))) (R.move rfl rfl) ?_
              refine JD.take 7 rfl rfl rfl rfl (by kernel_rfl) (fun w h => ((by first | exact h.pick 2 rfl | exact h.pick 3 rfl | exact h.pick 4 rfl))) (R.bin rfl rfl rfl (fun w => ra_mul (by omega))) ?_
              refine JD.take 8 rfl rfl rfl rfl (by kernel_rfl) (fun w h => ((by first | exact h.pick 2 rfl | exact h.pick 3 rfl | exact h.pick 4 rfl))) (R.move rfl rfl) ?_
              refine JD.take 9 rfl rfl rfl rfl (by kernel_rfl) (fun w h => ((by first | exact h.pick 2 rfl | exact h.pick 3 rfl | exact h.pick 4 rfl))) (R.bin rfl rfl rfl (fun w => ra_add (by omega))) ?_
              refine JD.take 10 rfl rfl rfl rfl (by kernel_rfl) (fun w h => ((by first | exact h.pick 2 rfl | exact h.pick 3 rfl | exact h.pick 4 rfl))) (R.bin rfl rfl rfl (fun w => ra_mul (by omega))) ?_
              refine JD.take 11 rfl rfl rfl rfl (by kernel_rfl) (fun w h => ((by first | exact h.pick 2 rfl | exact h.pick 3 rfl | exact h.pick 4 rfl))) (R.move rfl rfl) ?_
              refine JD.take 12 rfl rfl rfl rfl (by kernel_rfl) (fun w h => ((by first | exact h.pick 2 rfl | exact h.pick 3 rfl | exact h.pick 4 rfl))) (R.len rfl rfl Tryz.runUnderlying22) ?_
              refine JD.take 13 rfl rfl rfl rfl (by kernel_rfl) (fun w h => ((by first | exact h.pick 2 rfl | exact h.pick 3 rfl | exact h.pick 4 rfl))) (R.min rfl rfl rfl) ?_
              refine JD.take 14 rfl rfl rfl rfl (by kernel_rfl) (fun w h => ((by first | exact h.pick 2 rfl | exact h.pick 3 rfl | exact h.pick 4 rfl))) (R.slc (l1 := some _) (h1 := some _) (m1 := none) rfl rfl rfl rfl rfl (slc_lh Tryz.underlying22 Tryz.sizeOf5 (by omega) (by omega) (by omega))) ?_
              refine JD.step 15 rfl (by kernel_rfl) ?_
              generalize hk : (if (data.length : Int) < 64 * ((i : Int) + 1) then (data.length : Int) else 64 * ((i : Int) + 1)) = k
              have hk1 : k = (i * 64 : Nat) + (min 64 (data.length - i * 64) : Nat) := by rw [← hk]; split <;> omega
              have hsub := SubV.cut (A := A) (n := data.length) (c := c) (xs := data) (64 * (i : Int)) k (i * 64) (min 64 (data.length - i * 64)) (by omega) hk1 (by omega)
              have hxe : (data.drop (i * 64)).take (min 64 (data.length - i * 64)) = (data.drop (i * 64)).take 64 := by
                rcases Nat.lt_or_ge (data.length - i * 64) 64 with h | h
                · rw [List.take_of_length_le (by rw [List.length_drop]; omega), List.take_of_length_le (by rw [List.length_drop]; omega)]
                · rw [Nat.min_eq_left h]
              rw [hxe] at hsub
              generalize hxx : (data.drop (i * 64)).take 64 = x at hsub
              have hx64 : x.length ≤ 64 := by rw [← hxx, List.length_take]; omega
              refine J.callr rfl rfl rfl rfl rfl Tryz.call56 (fun w h => padded_calls w _ x (hsub _ _ (h.ba hx0)) hx64)  ?_
              rintro v71 r71 ⟨Au, cu, fu, -, -, rfl, rfl⟩
              refine J.nil ⟨(fun _ w h => ((by first | exact h.pick 2 rfl | exact h.pick 3 rfl | exact h.pick 4 rfl))), ?_⟩
              refine JD.take 16 rfl rfl rfl rfl (by kernel_rfl) (fun w h => ((by first | exact h.pick 2 rfl | exact h.pick 3 rfl | exact h.pick 4 rfl))) (R.bld (pl := #[(0, 1), (1, 1)]) (cells := #[_, _]) rfl rfl Tryz.zeroValue89 Tryz.runUnderlying89 (fun w => by kernel_rfl) rfl) ?_
              refine JD.step 17 rfl (by kernel_rfl) ?_
              refine J.blds (vs := [_]) (cells := [_, _]) rfl rfl rfl rfl rfl Tryz.zeroValue89 Tryz.runUnderlying45 Tryz.sizeOf89 rfl rfl rfl rfl (fun b73 => ?_)
              refine J.nil ⟨(fun _ w h => ((by first | exact h.pick 2 rfl | exact h.pick 3 rfl | exact h.pick 4 rfl))), ?_⟩
              refine JD.step 18 rfl (by kernel_rfl) ?_
              refine J.app 2 rfl rfl rfl rfl rfl rfl Tryz.underlying45 inf89 rfl rfl rfl rfl (news := [vi (s + i), .slice Au (pad64 x).length cu]) rfl (fun w h hn => srcO h 0 rfl) rfl (by omega) (fun v74 => ?_)
              refine J.fact (fun w h => row_form (h.get 2 rfl)) ?_
              rintro ⟨A22, c22, rfl, -, -⟩
              refine J.nil ⟨(fun _ w h => ((by first | exact h.pick 2 rfl | exact h.pick 3 rfl | exact h.pick 4 rfl))), ?_⟩
              refine JD.take 19 rfl rfl rfl rfl (by kernel_rfl) (fun w h => ((by first | exact h.pick 2 rfl | exact h.pick 3 rfl | exact h.pick 4 rfl))) (R.fld (k := 1) rfl rfl Tryz.runUnderlying47 rfl rfl Tryz.sizeOf45) ?_
              refine JD.step 20 rfl (by kernel_rfl) ?_
              refine J.st1 4 rfl rfl rfl rfl rfl rfl Tryz.sizeOf45 (by first | rfl | assumption | simp [Value.cells, Value.oneCell']) rfl rfl rfl ?_
              refine J.nil ⟨(fun h => by cases h), ?_⟩
              refine JD.done (by kernel_rfl) ?_
              refine C.region ?_
              refine J.move rfl rfl rfl rfl rfl ?_
              refine J.bin rfl rfl rfl rfl rfl rfl (fun w => ra_add (by omega)) ?_
              refine J.asg rfl rfl rfl rfl rfl ?_
              refine J.nil ?_
              refine ⟨rfl, (i + 1, A22, c22, us ++ [.slice Au (pad64 x).length cu], fun b => fq b ∨ fu b), ⟨hlt, by dsimp only; simp [hul]; omega⟩, by dsimp only; omega, (Sub.cons rfl (Sub.cons rfl (Sub.cons rfl (Sub.cons rfl (Sub.cons rfl (Sub.cons rfl (Sub.nil _))))))), fun w h => ?_⟩
              have g1 := (h.ord [1, 3, 2, 4, 5, 6, 7] (by decide)).msnoc
              dsimp only
              rw [putW_succ, hxx, ← List.append_assoc, wcells_snoc _ _ (by rw [hul]; simp [putW_len]), List.map_append]
              exact g1.ord [1, 0, 2, 3, 4, 5] (by decide)
            · have hge : i = nch data := by have := of_decide_eq_false h5; omega
              subst hge
              refine C.exit rfl ?_
              refine C.seq ?_
              refine C.region ?_
              refine J.ldw 2 rfl rfl rfl rfl rfl Tryz.isAgg47 rfl Tryz.sizeOf47 ?_
              first | refine J.stwc 5 rfl rfl rfl rfl rfl rfl Tryz.sizeOf47 (by first | rfl | assumption | simp [Value.cells, Value.oneCell']) rfl rfl ?_ | refine J.stw 5 rfl rfl rfl rfl rfl rfl Tryz.sizeOf47 (by first | rfl | assumption | simp [Value.cells, Value.oneCell']) rfl rfl ?_
              refine J.asg rfl rfl rfl rfl rfl ?_
              refine J.nil ?_
              refine C.ret ?_
              refine fin2 rfl (RV.cellw 5 rfl Tryz.isAgg47 rfl Tryz.sizeOf47) (RV.tmp rfl) (fun w' h => ?_)
              have g1 := (h.ord [3, 4, 0, 1] (by decide)).rbs_of
              exact retRk (d := dkPut d s data) rfl (by unfold dkPut; rw [List.length_append, putW_len]) ((g1.ord [1, 2, 0] (by decide)).rws_of.ord [1, 0] (by decide))
end Go.Proofs.YtiminmnmeknioaaGreatDoor

/- ref03.Crash. -/
set_option linter.unusedVariables false
namespace Go.Proofs.YtiminmnmeknioaaGreatDoor
open Go Go.RowKit

theorem landN_stop {kp : Nat → Bool} {c : List Wr} {secs : List (List UInt8)} {i : Nat} (h : ∀ j, i ≤ j → kp j = false) : ∀ k, landN kp c secs (i + k) = landN kp c secs i
  | 0 => rfl
  | k + 1 => by
    have ih := landN_stop (c := c) (secs := secs) h k
    rw [← Nat.add_assoc, landN]
    split
    · rw [if_neg (by rw [h (i + k) (by omega)]; simp)]; exact ih
    · exact ih
theorem landN_congr {kp kq : Nat → Bool} {c : List Wr} {secs : List (List UInt8)} : ∀ k, (∀ i, i < k → kp i = kq i) → landN kp c secs k = landN kq c secs k
  | 0, _ => rfl
  | k + 1, h => by
    have ih := landN_congr (c := c) (secs := secs) k (fun i hi => h i (by omega))
    rw [landN, landN, ih, h k (by omega)]
theorem St.mset {mu : Nat → Prop} {w0 w : World} {M : List Res} {fp fp1 : Nat → Prop} {u : Value} {x : List UInt8} {vs : List Value} {xss : List (List UInt8)} (j : Nat) (h : St mu w0 (rbR fp1 u x :: mR fp vs xss :: M) w) : St mu w0 (mR (fun b => fp b ∨ fp1 b) (vs.set j u) (xss.set j x) :: M) w := by
  have h1 : RB fp1 w u x := h.get 0 rfl
  have h2 : (mR fp vs xss).hold w := h.get 1 rfl
  refine h.merge ⟨by simp [h2.1], fun i u' x' hu hx => ?_⟩ (fun b hb => hb.symm)
  rw [List.getElem?_set] at hu hx
  by_cases hij : j = i
  · rw [if_pos hij] at hu hx
    split at hu
    · injection hu with hu
      subst hu
      split at hx
      · injection hx with hx
        subst hx
        exact RB.imp h1 (fun _ h => .inr h) (fun _ _ => rfl)
      · cases hx
    · cases hu
  · rw [if_neg hij] at hu hx
    exact RB.imp (h2.2 i u' x' hu hx) (fun _ h => .inl h) (fun _ _ => rfl)
theorem St.mba {mu : Nat → Prop} {w0 w : World} {M : List Res} {fp : Nat → Prop} {u : Value} {x : List UInt8} {vs : List Value} {xss : List (List UInt8)} {i : Nat} (h : St mu w0 M w) (k : Nat) (hk : M[k]? = some (mR fp vs xss)) (hu : vs[i]? = some u) (hx : xss[i]? = some x) : BA w u x :=
  RB.imp ((h.get k hk : (mR fp vs xss).hold w).2 i u x hu hx) (fun b hb => (h.bd k hk hb).2) (fun _ _ => rfl)
theorem rCrash_calls (w : World) (d : Dk) (sv cv kv : Value) (keep : List Bool) (hs : BSA w sv d.secs) (hc : WSA w cv d.cache) (hk : TA w kv keep) : Calls Tryz.prog 32 #[.agg #[sv, cv], kv] w (RetL No w (PRk (dkLand (fun i => keep.getD i false) d).1 (dkLand (fun i => keep.getD i false) d).2)) := by
  have hs0 := hs
  have hc0 := hc
  obtain ⟨As, cs, rfl, -, -, -⟩ := hs.form
  obtain ⟨Ac, cc, rfl, -, -, -⟩ := hc.form
  obtain ⟨Ak, ck, rfl, hk1, hk2, hk3⟩ := hk.form
  refine calls_of_C Tryz.func32 rfl Tryz.ntmps32 (Nat.le_of_ble_eq_true rfl) ?_
  refine C.less (L' := [(0, _), (1, _)]) ?_ (Sub.cons rfl (Sub.cons rfl (Sub.nil _))) (fun w h => h)
  refine C.seq ?_
  refine C.region ?_
  first | refine J.boxc rfl rfl rfl rfl rfl rfl (fun b2 => ?_) | refine J.box rfl rfl rfl rfl rfl (fun b2 => ?_)
  refine J.allocc rfl rfl rfl rfl Tryz.zeroValue47 rfl (fun b4 => ?_)
  refine J.asg rfl rfl rfl rfl rfl ?_
  refine J.nil ?_
  refine C.seq ?_
  refine C.seq ?_
  refine C.region ?_
  refine J.ldw 1 rfl rfl rfl rfl rfl Tryz.isAgg47 rfl Tryz.sizeOf47 ?_
  refine J.call0 rfl rfl rfl rfl rfl Tryz.call54 (fun w h => rCheck_dk_calls w d _ _ (h.bsa hs0) (h.wsa hc0)) ?_
  refine J.bin rfl rfl rfl rfl rfl rfl (fun w => rfl) ?_
  refine J.nil ?_
  rcases dkErr_cases d with ⟨hb, he⟩ | ⟨hb, he⟩
  · rw [show dkLand _ d = (dk0, 9) by unfold dkLand; rw [if_pos hb], he]
    refine C.cond_t rfl ?_
    refine C.seq ?_
    refine C.region ?_
    refine J.bld (pl := #[(0, 1), (1, 1)]) (cells := #[_, _]) rfl rfl rfl rfl rfl Tryz.zeroValue47 Tryz.runUnderlying47 (fun w => by kernel_rfl) rfl ?_
    first | refine J.stwc 0 rfl rfl rfl rfl rfl rfl Tryz.sizeOf47 (by first | rfl | assumption | simp [Value.cells, Value.oneCell']) rfl rfl ?_ | refine J.stw 0 rfl rfl rfl rfl rfl rfl Tryz.sizeOf47 (by first | rfl | assumption | simp [Value.cells, Value.oneCell']) rfl rfl ?_
    refine J.asg rfl rfl rfl rfl rfl ?_
    refine J.nil ?_
    refine C.ret ?_
    exact fin2 rfl (RV.cellw 0 rfl Tryz.isAgg47 rfl Tryz.sizeOf47) (RV.tmp rfl) (fun w' h => retRkZ h)
  · obtain ⟨⟨hs1, hs2⟩, hc1, hsl, hcl⟩ := dkOk hb
    rw [show dkLand (fun i => keep.getD i false) d = (⟨landN (fun i => keep.getD i false) d.cache d.secs d.cache.length, []⟩, 0) by unfold dkLand; rw [if_neg (by rw [hb]; simp)], he]
    refine C.cond_f rfl ?_
    refine C.skip ?_
    refine C.seq ?_
    refine C.region ?_
    refine J.ldw 1 rfl rfl rfl rfl rfl Tryz.isAgg47 rfl Tryz.sizeOf47 ?_
    refine J.callrl rfl rfl rfl rfl rfl Tryz.call55 (fun w h => Own_calls w d _ _ (h.bsa hs0) (h.wsa hc0) hb)  ?_
    rintro v13 R13 ⟨A1, c1, A2, c2, vs0, us, fp1, fp2, hul, rfl, rfl⟩
    refine J.allocc rfl rfl rfl rfl Tryz.zeroValue47 rfl (fun b6 => ?_)
    first | refine J.stwc 0 rfl rfl rfl rfl rfl rfl Tryz.sizeOf47 (by first | rfl | assumption | simp [Value.cells, Value.oneCell']) rfl rfl ?_ | refine J.stw 0 rfl rfl rfl rfl rfl rfl Tryz.sizeOf47 (by first | rfl | assumption | simp [Value.cells, Value.oneCell']) rfl rfl ?_
    refine J.nil ?_
    refine C.seq ?_
    refine C.seq ?_
    refine C.region ?_
    refine J.asg rfl rfl rfl rfl rfl ?_
    refine J.nil ?_
    refine C.block ?_
    refine C.loop (σ := Nat × List Value × (Nat → Prop)) (fun q => q.1 ≤ d.cache.length) (fun q => [(1, .slice Ak keep.length ck), (4, .pointer (some ⟨b4, 0, none⟩)), (6, .pointer (some ⟨b6, 0, none⟩)), (7, vi (q.1 : Int))]) (fun q => [rowR 22 1 (.slice A1 d.secs.length c1) d.secs.length q.2.1, mR q.2.2 q.2.1 (landN (fun i => keep.getD i false) d.cache d.secs q.1), blk b6 #[.slice A1 d.secs.length c1, .slice A2 d.cache.length c2] 47, rowR 89 2 (.slice A2 d.cache.length c2) d.cache.length (wcells d.cache us), mR fp2 us (d.cache.map (·.2)), blk b4 #[.slice none 0 0, .slice none 0 0] 47]) (fun q => d.cache.length - q.1) (0, vs0, fp1) (Nat.zero_le _) ?_ ?_ ?_
    · exact (Sub.cons rfl (Sub.cons rfl (Sub.cons rfl (Sub.cons rfl (Sub.nil _)))))
    · exact fun w h => h.ord [1, 2, 0, 3, 4, 5] (by decide)
    rintro ⟨i, vs, fp⟩ hi
    dsimp only at hi ⊢
    refine C.fact (p := vs.length = d.secs.length) (fun w h => by have := (h.get 0 rfl).1; simpa using this) ?_
    intro hvl
    refine C.seq ?_
    refine C.seq ?_
    refine C.region ?_
    refine J.move rfl rfl rfl rfl rfl ?_
    refine J.fld (k := 1) rfl rfl rfl rfl rfl Tryz.runUnderlying47 rfl rfl Tryz.sizeOf45 ?_
    refine J.ldo 2 rfl rfl rfl rfl rfl Tryz.isAgg45 rfl rfl ?_
    refine J.len rfl rfl rfl rfl rfl Tryz.runUnderlying45 ?_
    refine J.bin rfl rfl rfl rfl rfl rfl (fun w => rfl) ?_
    refine J.move rfl rfl rfl rfl rfl ?_
    rcases Decidable.em ((i : Int) < d.cache.length) with e1 | e1
    · have hlt : i < d.cache.length := by omega
      rw [dec_t e1]
      refine J.want rfl rfl rfl rfl ?_
      refine J.move rfl rfl rfl rfl rfl ?_
      refine J.want rfl rfl rfl rfl ?_
      refine J.move rfl rfl rfl rfl rfl ?_
      refine J.want rfl rfl rfl rfl ?_
      refine J.len rfl rfl rfl rfl rfl Tryz.runUnderlying65 ?_
      refine J.want rfl rfl rfl rfl ?_
      refine J.bin rfl rfl rfl rfl rfl rfl (fun w => rfl) ?_
      refine J.pick rfl rfl rfl rfl rfl rfl ?_
      refine J.nil ?_
      refine C.cond rfl (fun h2 => ?_) (fun h2 => ?_)
      · have hlk : i < keep.length := by have := of_decide_eq_true h2; omega
        obtain ⟨kb, hkb⟩ : ∃ b, keep[i]? = some b := ⟨_, List.getElem?_eq_getElem hlk⟩
        have hkp : keep.getD i false = kb := by rw [List.getD_eq_getElem?_getD, hkb]; rfl
        obtain ⟨x, hx⟩ : ∃ x, d.cache[i]? = some x := ⟨_, List.getElem?_eq_getElem hlt⟩
        obtain ⟨hx0, hx1, hx64⟩ := hcl x (List.mem_of_getElem? hx)
        obtain ⟨u, hu⟩ : ∃ u, us[i]? = some u := ⟨_, List.getElem?_eq_getElem (by omega)⟩
        obtain ⟨bk, ok, rfl, hbk, hkc⟩ := hk3 (by omega)
        refine C.skip ?_
        refine C.seq ?_
        refine C.block ?_
        refine C.seq ?_
        refine C.region ?_
        refine J.move rfl rfl rfl rfl rfl ?_
        refine J.move rfl rfl rfl rfl rfl ?_
        first | refine J.idx1 rfl rfl rfl rfl rfl rfl Tryz.runUnderlying65 Tryz.sizeOf4 (by omega) ?_ | refine J.idx rfl rfl rfl rfl rfl rfl Tryz.runUnderlying65 Tryz.sizeOf4 (by omega) ?_
        refine J.ld rfl rfl rfl rfl rfl Tryz.isAgg4 (fun w h => cellOld h (hkc i kb hkb)) ?_
        refine J.nil ?_
        refine C.cond rfl (fun h3 => ?_) (fun h3 => ?_)
        · refine C.fact (fun w h => row_some (h.get 3 rfl) (by omega)) ?_
          rintro ⟨bw, rfl⟩
          refine C.ex (fun q : Nat × Array Value => [blk q.1 q.2 22, mR fp vs (landN (fun i => keep.getD i false) d.cache d.secs i), blk b6 #[.slice A1 d.secs.length c1, .slice (some ⟨bw, 0, none⟩) d.cache.length c2] 47, rowR 89 2 (.slice (some ⟨bw, 0, none⟩) d.cache.length c2) d.cache.length (wcells d.cache us), mR fp2 us (d.cache.map (·.2)), blk b4 #[.slice none 0 0, .slice none 0 0] 47]) _ (fun w h => h.row_blk (by omega)) ?_
          rintro ⟨bv, cvs⟩ ⟨rfl, hc8, hc82, hcs, hct⟩
          dsimp only at hcs hct ⊢
          rw [Nat.mul_one] at hct
          refine C.regionD0 16 (by kernel_rfl) ?_
          refine JD.take 0 rfl rfl rfl rfl (by kernel_rfl) (fun w h => h) (R.fld (k := 0) rfl rfl Tryz.runUnderlying47 rfl rfl Tryz.sizeOf44) ?_
          refine JD.take 1 rfl rfl rfl rfl (by kernel_rfl) (fun w h => h) (R.ld rfl rfl Tryz.isAgg44 (fun w h => cellL h 2 rfl rfl)) ?_
          refine JD.take 2 rfl rfl rfl rfl (by kernel_rfl) (fun w h => h) (R.fld (k := 1) rfl rfl Tryz.runUnderlying47 rfl rfl Tryz.sizeOf45) ?_
          refine JD.take 3 rfl rfl rfl rfl (by kernel_rfl) (fun w h => h) (R.ld rfl rfl Tryz.isAgg45 (fun w h => cellL h 2 rfl rfl)) ?_
          refine JD.take 4 rfl rfl rfl rfl (by kernel_rfl) (fun w h => h) (R.move rfl rfl) ?_
          refine JD.take 5 rfl rfl rfl rfl (by kernel_rfl) (fun w h => h) (by first | exact (R.idxn rfl rfl rfl Tryz.runUnderlying45 Tryz.sizeOf89 (by omega)) | exact (R.idx rfl rfl rfl Tryz.runUnderlying45 Tryz.sizeOf89 (by omega))) ?_
          refine JD.take 6 rfl rfl rfl rfl (by kernel_rfl) (fun w h => h) (R.fld (k := 0) rfl rfl Tryz.runUnderlying89 rfl rfl Tryz.sizeOf3) ?_
          refine JD.take 8 rfl rfl rfl rfl (by kernel_rfl) (fun w h => h) (R.fld (k := 1) rfl rfl Tryz.runUnderlying47 rfl rfl Tryz.sizeOf45) ?_
          refine JD.take 9 rfl rfl rfl rfl (by kernel_rfl) (fun w h => h) (R.ld rfl rfl Tryz.isAgg45 (fun w h => cellL h 2 rfl rfl)) ?_
          refine JD.take 10 rfl rfl rfl rfl (by kernel_rfl) (fun w h => h) (R.move rfl rfl) ?_
          refine JD.take 11 rfl rfl rfl rfl (by kernel_rfl) (fun w h => h) (by first | exact (R.idxn rfl rfl rfl Tryz.runUnderlying45 Tryz.sizeOf89 (by omega)) | exact (R.idx rfl rfl rfl Tryz.runUnderlying45 Tryz.sizeOf89 (by omega))) ?_
          refine JD.take 12 rfl rfl rfl rfl (by kernel_rfl) (fun w h => h) (R.fld (k := 1) rfl rfl Tryz.runUnderlying89 rfl rfl Tryz.sizeOf22) ?_
          refine JD.take 7 rfl rfl rfl rfl (by kernel_rfl) (fun w h => h) (R.ld rfl rfl Tryz.isAgg3 (fun w h => by rw [Nat.zero_add]; exact h.rcell 3 rfl (wcells_get1 hul hx))) ?_
          refine JD.take 13 rfl rfl rfl rfl (by kernel_rfl) (fun w h => h) (R.ld rfl rfl Tryz.isAgg22 (fun w h => by rw [Nat.zero_add]; exact h.rcell 3 rfl (wcells_get2 hul hlt hu))) ?_
          refine JD.step 14 rfl (by kernel_rfl) ?_
          refine J.callr rfl rfl rfl rfl rfl Tryz.call57 (fun w h => Copied_calls w u x.2 (h.mba 4 rfl hu (by rw [List.getElem?_map, hx]; rfl)) (by omega))  ?_
          rintro v45 r45 ⟨Au, cu, fu, -, -, rfl, rfl⟩
          refine J.nil ⟨(fun _ w h => (h.sub ((List.Sublist.refl _).cons _))), ?_⟩
          refine JD.take 15 rfl rfl rfl rfl (by kernel_rfl) (fun w h => (h.sub ((List.Sublist.refl _).cons _))) (by first | exact (R.idx1 rfl rfl rfl Tryz.runUnderlying44 Tryz.sizeOf22 (by omega)) | exact (R.idx rfl rfl rfl Tryz.runUnderlying44 Tryz.sizeOf22 (by omega))) ?_
          refine JD.step 16 rfl (by kernel_rfl) ?_
          refine J.st1 1 rfl rfl rfl rfl rfl rfl Tryz.sizeOf22 rfl rfl (by rw [Nat.blt_eq]; omega) rfl ?_
          refine J.nil ⟨(fun h => by cases h), ?_⟩
          refine JD.done (by kernel_rfl) ?_
          refine C.region ?_
          refine J.move rfl rfl rfl rfl rfl ?_
          refine J.bin rfl rfl rfl rfl rfl rfl (fun w => ra_add (by omega)) ?_
          refine J.asg rfl rfl rfl rfl rfl ?_
          refine J.nil ?_
          refine ⟨rfl, (i + 1, vs.set x.1.toNat (.slice Au x.2.length cu), fun b => fp b ∨ fu b), hlt, by dsimp only; omega, (Sub.cons rfl (Sub.cons rfl (Sub.cons rfl (Sub.cons rfl (Sub.nil _))))), fun w h => ?_⟩
          dsimp only
          rw [landN_succ hx, if_pos (by rw [hkp, h3])]
          have g1 := (h.ord [0, 2, 1, 3, 4, 5, 6] (by decide)).mset x.1.toNat
          refine (g1.ord [1, 0, 2, 3, 4, 5] (by decide)).blk_row2 hc8 hc82 (by simpa using hcs) ?_
          rw [Nat.mul_one, Nat.zero_add, Nat.mul_one, setArr hct (by omega)]
        · refine C.skip ?_
          refine C.region ?_
          refine J.move rfl rfl rfl rfl rfl ?_
          refine J.bin rfl rfl rfl rfl rfl rfl (fun w => ra_add (by omega)) ?_
          refine J.asg rfl rfl rfl rfl rfl ?_
          refine J.nil ?_
          exact ⟨rfl, (i + 1, vs, fp), hlt, by dsimp only; omega, (Sub.cons rfl (Sub.cons rfl (Sub.cons rfl (Sub.cons rfl (Sub.nil _))))), fun w h => by dsimp only; rw [landN_succ hx, if_neg (by rw [hkp, h3]; simp)]; exact h⟩
      · have hlk : keep.length ≤ i := by have := of_decide_eq_false h2; omega
        have hstop : landN (fun i => keep.getD i false) d.cache d.secs d.cache.length = landN (fun i => keep.getD i false) d.cache d.secs i := by
          have := landN_stop (kp := fun i => keep.getD i false) (c := d.cache) (secs := d.secs) (i := i) (fun j hj => by rw [List.getD_eq_getElem?_getD, List.getElem?_eq_none (by omega)]; rfl) (d.cache.length - i)
          rwa [show i + (d.cache.length - i) = d.cache.length by omega] at this
        refine C.exit rfl ?_
        refine C.seq ?_
        refine C.region ?_
        refine J.fld (k := 1) rfl rfl rfl rfl rfl Tryz.runUnderlying47 rfl rfl Tryz.sizeOf45 ?_
        refine J.st1 2 rfl rfl rfl rfl rfl rfl Tryz.sizeOf45 (by first | rfl | assumption | simp [Value.cells, Value.oneCell']) rfl rfl rfl ?_
        refine J.nil ?_
        refine C.seq ?_
        refine C.region ?_
        refine J.ldw 2 rfl rfl rfl rfl rfl Tryz.isAgg47 rfl Tryz.sizeOf47 ?_
        first | refine J.stwc 5 rfl rfl rfl rfl rfl rfl Tryz.sizeOf47 (by first | rfl | assumption | simp [Value.cells, Value.oneCell']) rfl rfl ?_ | refine J.stw 5 rfl rfl rfl rfl rfl rfl Tryz.sizeOf47 (by first | rfl | assumption | simp [Value.cells, Value.oneCell']) rfl rfl ?_
        refine J.asg rfl rfl rfl rfl rfl ?_
        refine J.nil ?_
        refine C.ret ?_
        refine fin2 rfl (RV.cellw 5 rfl Tryz.isAgg47 rfl Tryz.sizeOf47) (RV.tmp rfl) (fun w' h => ?_)
        rw [hstop]
        exact retRk (d := ⟨landN (fun i => keep.getD i false) d.cache d.secs i, []⟩) (landN_len _ _ _ _) rfl ((nilRws h.rbs_of).ord [1, 0] (by decide))
    · have hge : i = d.cache.length := by omega
      have hstop : landN (fun i => keep.getD i false) d.cache d.secs d.cache.length = landN (fun i => keep.getD i false) d.cache d.secs i := by rw [hge]
      rw [dec_f e1]
      refine J.pass rfl rfl rfl rfl rfl (by intro h; cases h) ?_
      refine J.pass rfl rfl rfl rfl rfl (by intro h; cases h) ?_
      refine J.pass rfl rfl rfl rfl rfl (by intro h; cases h) ?_
      refine J.pass rfl rfl rfl rfl rfl (by intro h; cases h) ?_
      refine J.pick rfl rfl rfl rfl rfl rfl ?_
      refine J.nil ?_
      refine C.cond_f rfl ?_
      refine C.exit rfl ?_
      refine C.seq ?_
      refine C.region ?_
      refine J.fld (k := 1) rfl rfl rfl rfl rfl Tryz.runUnderlying47 rfl rfl Tryz.sizeOf45 ?_
      refine J.st1 2 rfl rfl rfl rfl rfl rfl Tryz.sizeOf45 (by first | rfl | assumption | simp [Value.cells, Value.oneCell']) rfl rfl rfl ?_
      refine J.nil ?_
      refine C.seq ?_
      refine C.region ?_
      refine J.ldw 2 rfl rfl rfl rfl rfl Tryz.isAgg47 rfl Tryz.sizeOf47 ?_
      first | refine J.stwc 5 rfl rfl rfl rfl rfl rfl Tryz.sizeOf47 (by first | rfl | assumption | simp [Value.cells, Value.oneCell']) rfl rfl ?_ | refine J.stw 5 rfl rfl rfl rfl rfl rfl Tryz.sizeOf47 (by first | rfl | assumption | simp [Value.cells, Value.oneCell']) rfl rfl ?_
      refine J.asg rfl rfl rfl rfl rfl ?_
      refine J.nil ?_
      refine C.ret ?_
      refine fin2 rfl (RV.cellw 5 rfl Tryz.isAgg47 rfl Tryz.sizeOf47) (RV.tmp rfl) (fun w' h => ?_)
      rw [hstop]
      exact retRk (d := ⟨landN (fun i => keep.getD i false) d.cache d.secs i, []⟩) (landN_len _ _ _ _) rfl ((nilRws h.rbs_of).ord [1, 0] (by decide))
end Go.Proofs.YtiminmnmeknioaaGreatDoor

/- ref03.Flush. -/
set_option linter.unusedVariables false
namespace Go.Proofs.YtiminmnmeknioaaGreatDoor
open Go Go.RowKit

theorem blk_ta {mu : Nat → Prop} {w0 w : World} {M : List Res} {b n : Nat} {t : TypeId} (h : St mu w0 M w) (k : Nat) (hk : M[k]? = some (blk b (List.replicate n (Value.bool true)).toArray t)) (hn : n ≤ 9223372036854775807) : TA w (.slice (some ⟨b, 0, none⟩) n n) (List.replicate n true) := by
  have h1 : w.heap[b]? = some (.cells (List.replicate n (Value.bool true)).toArray t (0, 0)) := h.get k hk
  refine RT.mk (by simp) (Nat.le_refl _) hn fun hn => ⟨b, 0, rfl, heap_lt h1, fun j x hx => ?_⟩
  have hj : j < n := by have := (List.getElem?_eq_some_iff.1 hx).1; simpa using this
  rw [List.getElem?_replicate, if_pos hj] at hx
  injection hx with hx
  subst hx
  rw [Nat.zero_add]
  simp [World.cell?, h1, hj]
theorem rFlush_calls (w : World) (d : Dk) (sv cv : Value) (hs : BSA w sv d.secs) (hc : WSA w cv d.cache) (hl : d.cache.length ≤ 140737488355328) : Calls Tryz.prog 45 #[.agg #[sv, cv]] w (RetL No w (PRk (dkLand (fun _ => true) d).1 (dkLand (fun _ => true) d).2)) := by
  have hs0 := hs
  have hc0 := hc
  obtain ⟨As, cs, rfl, -, -, -⟩ := hs.form
  obtain ⟨Ac, cc, rfl, -, -, -⟩ := hc.form
  have he : dkLand (fun _ => true) d = dkLand (fun i => (List.replicate d.cache.length true).getD i false) d := by
    unfold dkLand
    rw [landN_congr (kp := fun _ => true) (kq := fun i => (List.replicate d.cache.length true).getD i false) d.cache.length (fun i hi => by rw [List.getD_eq_getElem?_getD, List.getElem?_replicate, if_pos hi]; rfl)]
  refine calls_of_C Tryz.func45 rfl Tryz.ntmps45 (Nat.le_of_ble_eq_true rfl) ?_
  refine C.less (L' := [(0, _)]) ?_ (Sub.cons rfl (Sub.nil _)) (fun w h => h)
  refine C.seq ?_
  refine C.region ?_
  first | refine J.boxc rfl rfl rfl rfl rfl rfl (fun b1 => ?_) | refine J.box rfl rfl rfl rfl rfl (fun b1 => ?_)
  refine J.allocc rfl rfl rfl rfl Tryz.zeroValue47 rfl (fun b2 => ?_)
  refine J.asg rfl rfl rfl rfl rfl ?_
  refine J.nil ?_
  refine C.seq ?_
  refine C.region ?_
  refine J.fld (k := 1) rfl rfl rfl rfl rfl Tryz.runUnderlying47 rfl rfl Tryz.sizeOf45 ?_
  refine J.ldo 1 rfl rfl rfl rfl rfl Tryz.isAgg45 rfl rfl ?_
  refine J.len rfl rfl rfl rfl rfl Tryz.runUnderlying45 ?_
  refine J.mk rfl rfl rfl rfl rfl rfl (n := d.cache.length) rfl rfl  Tryz.underlying65 inf4 rfl  (by omega) (by omega) (fun b9 => ?_)
  refine J.asg rfl rfl rfl rfl rfl ?_
  refine J.nil ?_
  refine C.seq ?_
  refine C.seq ?_
  refine C.region ?_
  refine J.asg rfl rfl rfl rfl rfl ?_
  refine J.nil ?_
  refine C.block ?_
  refine C.loop (σ := Nat) (fun i => i ≤ d.cache.length) (fun i => [(1, .pointer (some ⟨b1, 0, none⟩)), (2, .pointer (some ⟨b2, 0, none⟩)), (4, .slice (some ⟨b9, 0, none⟩) d.cache.length d.cache.length), (5, vi (i : Int))]) (fun i => [blk b9 (List.replicate i (Value.bool true) ++ (List.replicate d.cache.length (Value.bool false)).drop i).toArray 4, blk b2 #[.slice none 0 0, .slice none 0 0] 47, blk b1 #[.slice As d.secs.length cs, .slice Ac d.cache.length cc] 47]) (fun i => d.cache.length - i) 0 (Nat.zero_le _) ?_ ?_ ?_
  · exact (Sub.cons rfl (Sub.cons rfl (Sub.cons rfl (Sub.cons rfl (Sub.nil _)))))
  · exact fun w h => h
  intro i hi
  dsimp only at hi ⊢
  refine C.seq ?_
  refine C.seq ?_
  refine C.region ?_
  refine J.move rfl rfl rfl rfl rfl ?_
  refine J.move rfl rfl rfl rfl rfl ?_
  refine J.len rfl rfl rfl rfl rfl Tryz.runUnderlying65 ?_
  refine J.bin rfl rfl rfl rfl rfl rfl (fun w => rfl) ?_
  refine J.nil ?_
  refine C.cond rfl (fun h => ?_) (fun h => ?_)
  · have hlt : i < d.cache.length := by have := of_decide_eq_true h; omega
    refine C.skip ?_
    refine C.seq ?_
    refine C.block ?_
    refine C.region ?_
    refine J.move rfl rfl rfl rfl rfl ?_
    refine J.move rfl rfl rfl rfl rfl ?_
    first | refine J.idx1 rfl rfl rfl rfl rfl rfl Tryz.runUnderlying65 Tryz.sizeOf4 (by omega) ?_ | refine J.idx rfl rfl rfl rfl rfl rfl Tryz.runUnderlying65 Tryz.sizeOf4 (by omega) ?_
    refine J.st1 0 (cs' := (List.replicate (i + 1) (Value.bool true) ++ (List.replicate d.cache.length (Value.bool false)).drop (i + 1)).toArray) rfl rfl rfl rfl rfl rfl Tryz.sizeOf4 rfl rfl (by rw [Nat.blt_eq, List.size_toArray, List.length_append, List.length_drop, List.length_replicate, List.length_replicate]; omega) (by rw [List.setIfInBounds_toArray, Nat.zero_add, set_mid (List.length_replicate ..) (by rw [List.length_replicate]; omega), ← List.replicate_succ']) ?_
    refine J.nil ?_
    refine C.region ?_
    refine J.move rfl rfl rfl rfl rfl ?_
    refine J.bin rfl rfl rfl rfl rfl rfl (fun w => ra_add (by omega)) ?_
    refine J.asg rfl rfl rfl rfl rfl ?_
    refine J.nil ?_
    exact ⟨rfl, i + 1, hlt, by omega, (Sub.cons rfl (Sub.cons rfl (Sub.cons rfl (Sub.cons rfl (Sub.nil _))))), fun w h => h⟩
  · have hge : i = d.cache.length := by have := of_decide_eq_false h; omega
    subst hge
    rw [List.drop_of_length_le (by rw [List.length_replicate]; omega), List.append_nil]
    refine C.exit rfl ?_
    refine C.seq ?_
    refine C.region ?_
    refine J.ldw 2 rfl rfl rfl rfl rfl Tryz.isAgg47 rfl Tryz.sizeOf47 ?_
    refine J.move rfl rfl rfl rfl rfl ?_
    refine J.callrl rfl rfl rfl rfl rfl Tryz.call32 (fun w h => rCrash_calls w d _ _ _ (List.replicate d.cache.length true) (h.bsa hs0) (h.wsa hc0) (blk_ta h 0 rfl (by omega)))  ?_
    rintro v21 R21 ⟨A1, c1, A2, c2, fp1, fp2, rfl, rfl⟩
    rw [he]
    refine J.ext rfl rfl rfl rfl rfl rfl ?_
    refine J.ext rfl rfl rfl rfl rfl rfl ?_
    first | refine J.stwc 3 rfl rfl rfl rfl rfl rfl Tryz.sizeOf47 (by first | rfl | assumption | simp [Value.cells, Value.oneCell']) rfl rfl ?_ | refine J.stw 3 rfl rfl rfl rfl rfl rfl Tryz.sizeOf47 (by first | rfl | assumption | simp [Value.cells, Value.oneCell']) rfl rfl ?_
    refine J.asg rfl rfl rfl rfl rfl ?_
    refine J.nil ?_
    refine C.ret ?_
    exact fin2 rfl (RV.cellw 3 rfl Tryz.isAgg47 rfl Tryz.sizeOf47) (RV.tmp rfl) (fun w' h => (h.ord [0, 1] (by decide)).retL (List.Sublist.refl _) ⟨A1, c1, A2, c2, fp1, fp2, rfl, rfl⟩)
end Go.Proofs.YtiminmnmeknioaaGreatDoor

/- point.Store. -/
set_option linter.unusedVariables false
namespace Go.Proofs.YtiminmnmeknioaaGreatDoor
open Go Go.RowKit

def askErr (d : Dk) : Int := if dkBad d = true then 9 else if d.secs.length < 16 then 41 else 0
theorem asked_calls (w : World) (d : Dk) (sv cv : Value) (hs : BSA w sv d.secs) (hc : WSA w cv d.cache) : Calls Tryz.prog 42 #[.agg #[sv, cv]] w (Ret0 w (vi (askErr d))) := by
  have hs0 := hs
  have hc0 := hc
  obtain ⟨As, cs, rfl, -, -, -⟩ := hs.form
  obtain ⟨Ac, cc, rfl, -, -, -⟩ := hc.form
  refine calls_of_C Tryz.func42 rfl Tryz.ntmps42 (Nat.le_of_ble_eq_true rfl) ?_
  refine C.less (L' := [(0, _)]) ?_ (Sub.cons rfl (Sub.nil _)) (fun w h => h)
  refine C.seq ?_
  refine C.region ?_
  first | refine J.boxc rfl rfl rfl rfl rfl rfl (fun b1 => ?_) | refine J.box rfl rfl rfl rfl rfl (fun b1 => ?_)
  refine J.asg rfl rfl rfl rfl rfl ?_
  refine J.nil ?_
  refine C.seq ?_
  refine C.seq ?_
  refine C.region ?_
  refine J.ldw 0 rfl rfl rfl rfl rfl Tryz.isAgg50 rfl Tryz.sizeOf50 ?_
  refine J.call0 rfl rfl rfl rfl rfl Tryz.call49 (fun w h => Check_dk_calls w d _ _ (h.bsa hs0) (h.wsa hc0)) ?_
  refine J.asg rfl rfl rfl rfl rfl ?_
  refine J.nil ?_
  refine C.seq ?_
  refine C.region ?_
  refine J.move rfl rfl rfl rfl rfl ?_
  refine J.bin rfl rfl rfl rfl rfl rfl (fun w => rfl) ?_
  refine J.nil ?_
  rcases dkErr_cases d with ⟨hb, he⟩ | ⟨hb, he⟩
  · rw [show askErr d = 9 by unfold askErr; rw [if_pos hb], he]
    refine C.cond_t rfl ?_
    refine C.seq ?_
    refine C.region ?_
    refine J.move rfl rfl rfl rfl rfl ?_
    refine J.asg rfl rfl rfl rfl rfl ?_
    refine J.nil ?_
    refine C.ret ?_
    exact fin1 rfl (RV.tmp rfl) (fun w' h => h.ret0)
  · rw [he]
    refine C.cond_f rfl ?_
    refine C.skip ?_
    refine C.seq ?_
    refine C.seq ?_
    refine C.region ?_
    refine J.fld (k := 0) rfl rfl rfl rfl rfl Tryz.runUnderlying50 rfl rfl Tryz.sizeOf44 ?_
    refine J.ldo 0 rfl rfl rfl rfl rfl Tryz.isAgg44 rfl rfl ?_
    refine J.len rfl rfl rfl rfl rfl Tryz.runUnderlying44 ?_
    refine J.bin rfl rfl rfl rfl rfl rfl (fun w => rfl) ?_
    refine J.nil ?_
    refine C.cond rfl (fun h => ?_) (fun h => ?_)
    · rw [show askErr d = 41 by unfold askErr; rw [if_neg (by rw [hb]; simp), if_pos (by have := of_decide_eq_true h; omega)]]
      refine C.seq ?_
      refine C.region ?_
      refine J.asg rfl rfl rfl rfl rfl ?_
      refine J.nil ?_
      refine C.ret ?_
      exact fin1 rfl (RV.tmp rfl) (fun w' h => h.ret0)
    · rw [show askErr d = 0 by unfold askErr; rw [if_neg (by rw [hb]; simp), if_neg (by have := of_decide_eq_false h; omega)]]
      refine C.skip ?_
      refine C.seq ?_
      refine C.region ?_
      refine J.asg rfl rfl rfl rfl rfl ?_
      refine J.nil ?_
      refine C.ret ?_
      exact fin1 rfl (RV.tmp rfl) (fun w' h => h.ret0)
theorem rasked_calls (w : World) (d : Dk) (sv cv : Value) (hs : BSA w sv d.secs) (hc : WSA w cv d.cache) : Calls Tryz.prog 44 #[.agg #[sv, cv]] w (Ret0 w (vi (askErr d))) := by
  have hs0 := hs
  have hc0 := hc
  obtain ⟨As, cs, rfl, -, -, -⟩ := hs.form
  obtain ⟨Ac, cc, rfl, -, -, -⟩ := hc.form
  refine calls_of_C Tryz.func44 rfl Tryz.ntmps44 (Nat.le_of_ble_eq_true rfl) ?_
  refine C.less (L' := [(0, _)]) ?_ (Sub.cons rfl (Sub.nil _)) (fun w h => h)
  refine C.seq ?_
  refine C.region ?_
  first | refine J.boxc rfl rfl rfl rfl rfl rfl (fun b1 => ?_) | refine J.box rfl rfl rfl rfl rfl (fun b1 => ?_)
  refine J.asg rfl rfl rfl rfl rfl ?_
  refine J.nil ?_
  refine C.seq ?_
  refine C.region ?_
  refine J.ldw 0 rfl rfl rfl rfl rfl Tryz.isAgg47 rfl Tryz.sizeOf47 ?_
  refine J.call0 rfl rfl rfl rfl rfl Tryz.call54 (fun w h => rCheck_dk_calls w d _ _ (h.bsa hs0) (h.wsa hc0)) ?_
  refine J.asg rfl rfl rfl rfl rfl ?_
  refine J.nil ?_
  refine C.seq ?_
  refine C.block ?_
  refine C.seq ?_
  refine C.region ?_
  refine J.move rfl rfl rfl rfl rfl ?_
  refine J.bin rfl rfl rfl rfl rfl rfl (fun w => rfl) ?_
  refine J.asg rfl rfl rfl rfl rfl ?_
  refine J.nil ?_
  rcases dkErr_cases d with ⟨hb, he⟩ | ⟨hb, he⟩
  · rw [show askErr d = 9 by unfold askErr; rw [if_pos hb], he]
    refine C.cond_t rfl ?_
    refine C.seq ?_
    refine C.region ?_
    refine J.move rfl rfl rfl rfl rfl ?_
    refine J.asg rfl rfl rfl rfl rfl ?_
    refine J.nil ?_
    refine C.ret ?_
    exact fin1 rfl (RV.tmp rfl) (fun w' h => h.ret0)
  · rw [he]
    refine C.cond_f rfl ?_
    refine C.seq ?_
    refine C.region ?_
    refine J.fld (k := 0) rfl rfl rfl rfl rfl Tryz.runUnderlying47 rfl rfl Tryz.sizeOf44 ?_
    refine J.ldo 0 rfl rfl rfl rfl rfl Tryz.isAgg44 rfl rfl ?_
    refine J.len rfl rfl rfl rfl rfl Tryz.runUnderlying44 ?_
    refine J.bin rfl rfl rfl rfl rfl rfl (fun w => rfl) ?_
    refine J.asg rfl rfl rfl rfl rfl ?_
    refine J.nil ?_
    refine C.cond rfl (fun h => ?_) (fun h => ?_)
    · rw [show askErr d = 41 by unfold askErr; rw [if_neg (by rw [hb]; simp), if_pos (by have := of_decide_eq_true h; omega)]]
      refine C.seq ?_
      refine C.region ?_
      refine J.asg rfl rfl rfl rfl rfl ?_
      refine J.nil ?_
      refine C.ret ?_
      exact fin1 rfl (RV.tmp rfl) (fun w' h => h.ret0)
    · rw [show askErr d = 0 by unfold askErr; rw [if_neg (by rw [hb]; simp), if_neg (by have := of_decide_eq_false h; omega)]]
      refine C.skip ?_
      refine C.seq ?_
      refine C.region ?_
      refine J.asg rfl rfl rfl rfl rfl ?_
      refine J.nil ?_
      refine C.ret ?_
      exact fin1 rfl (RV.tmp rfl) (fun w' h => h.ret0)
theorem rem2 {P : Program} {w : World} {t : TypeId} (n : Int) (h : 0 ≤ n) : (binOp .rem t (.int .i64 n) (.int .i64 2)).run P w = .ok (.int .i64 (n % 2)) w := by
  show Result.ok (Value.int .i64 (n.tmod 2)) w = _
  rw [Int.tmod_eq_emod_of_nonneg h]
theorem St.bsa_own {mu : Nat → Prop} {w0 w : World} {M : List Res} {e e' : TypeId} {v : Value} {n : Nat} {vs : List Value} {xss : List (List UInt8)} (h : St mu w0 (rowR e 1 v n vs :: gR e' vs xss :: M) w) : BSA w v xss := by
  have h1 := (h.ord [1, 0] (by decide)).at_ (gR_mR h 1 rfl) (fun _ hb => hb)
  exact ((h1.ord [1, 0] (by decide)).rbs_of).rbs 0 rfl
def ptStore (d : Dk) (p : Pt) : Dk × Int := if askErr d ≠ 0 then (dk0, askErr d) else if ptErr p ≠ 0 then (dk0, ptErr p) else if (dkPutAll d (8 * (p.ep % 2)) (ptReg p)).2 ≠ 0 then (dk0, (dkPutAll d (8 * (p.ep % 2)) (ptReg p)).2) else dkLand (fun _ => true) (dkPutAll d (8 * (p.ep % 2)) (ptReg p)).1
theorem Store_calls (w : World) (d : Dk) (p : Pt) (sv cv dv : Value) (hs : BSA w sv d.secs) (hc : WSA w cv d.cache) (hx : BA w dv p.dt) (hl : p.dt.length ≤ 140737488355328) : Calls Tryz.prog 21 #[.agg #[sv, cv], .agg #[vi p.ep, vi p.sq, vi p.vw, vi p.cm, dv]] w (RetL No w (PDk (ptStore d p).1 (ptStore d p).2)) := by
  have hs0 := hs
  have hc0 := hc
  have hx0 := hx
  obtain ⟨As, cs, rfl, -, -, -⟩ := hs.form
  obtain ⟨Ac, cc, rfl, -, -, -⟩ := hc.form
  obtain ⟨A, c, rfl, -, -, -⟩ := hx.form
  refine calls_of_C Tryz.func21 rfl Tryz.ntmps21 (Nat.le_of_ble_eq_true rfl) ?_
  refine C.less (L' := [(0, _), (1, _)]) ?_ (Sub.cons rfl (Sub.cons rfl (Sub.nil _))) (fun w h => h)
  refine C.seq ?_
  refine C.region ?_
  first | refine J.boxc rfl rfl rfl rfl rfl rfl (fun b2 => ?_) | refine J.box rfl rfl rfl rfl rfl (fun b2 => ?_)
  first | refine J.boxc rfl rfl rfl rfl rfl rfl (fun b3 => ?_) | refine J.box rfl rfl rfl rfl rfl (fun b3 => ?_)
  refine J.allocc rfl rfl rfl rfl Tryz.zeroValue50 rfl (fun b4 => ?_)
  refine J.asg rfl rfl rfl rfl rfl ?_
  refine J.nil ?_
  refine C.seq ?_
  refine C.seq ?_
  refine C.region ?_
  refine J.ldw 2 rfl rfl rfl rfl rfl Tryz.isAgg50 rfl Tryz.sizeOf50 ?_
  refine J.call0 rfl rfl rfl rfl rfl Tryz.call42 (fun w h => asked_calls w d _ _ (h.bsa hs0) (h.wsa hc0)) ?_
  refine J.asg rfl rfl rfl rfl rfl ?_
  refine J.nil ?_
  refine C.seq ?_
  refine C.region ?_
  refine J.move rfl rfl rfl rfl rfl ?_
  refine J.bin rfl rfl rfl rfl rfl rfl (fun w => rfl) ?_
  refine J.nil ?_
  refine C.cond rfl (fun h => ?_) (fun h => ?_)
  · have h : askErr d ≠ 0 := by simpa using h
    rw [show ptStore d p = (dk0, askErr d) by unfold ptStore; rw [if_pos h]]
    refine C.seq ?_
    refine C.region ?_
    refine J.bld (pl := #[(0, 1), (1, 1)]) (cells := #[_, _]) rfl rfl rfl rfl rfl Tryz.zeroValue50 Tryz.runUnderlying50 (fun w => by kernel_rfl) rfl ?_
    refine J.move rfl rfl rfl rfl rfl ?_
    first | refine J.stwc 0 rfl rfl rfl rfl rfl rfl Tryz.sizeOf50 (by first | rfl | assumption | simp [Value.cells, Value.oneCell']) rfl rfl ?_ | refine J.stw 0 rfl rfl rfl rfl rfl rfl Tryz.sizeOf50 (by first | rfl | assumption | simp [Value.cells, Value.oneCell']) rfl rfl ?_
    refine J.asg rfl rfl rfl rfl rfl ?_
    refine J.nil ?_
    refine C.ret ?_
    exact fin2 rfl (RV.cellw 0 rfl Tryz.isAgg50 rfl Tryz.sizeOf50) (RV.tmp rfl) (fun w' h => retDkZ h)
  · have h : ¬ askErr d ≠ 0 := by simpa using h
    refine C.skip ?_
    refine C.seq ?_
    refine C.region ?_
    refine J.ldw 1 rfl rfl rfl rfl rfl Tryz.isAgg25 rfl Tryz.sizeOf25 ?_
    refine J.callr rfl rfl rfl rfl rfl Tryz.call10 (fun w h => Encode_pt_calls w p _ (h.ba hx0) hl)  ?_
    rintro v17 r17 ⟨Ae, ce, fe, -, -, rfl, rfl⟩
    refine J.move rfl rfl rfl rfl rfl ?_
    refine J.ext rfl rfl rfl rfl rfl rfl ?_
    refine J.ext rfl rfl rfl rfl rfl rfl ?_
    refine J.asg rfl rfl rfl rfl rfl ?_
    refine J.asg rfl rfl rfl rfl rfl ?_
    refine J.nil ?_
    refine C.seq ?_
    refine C.seq ?_
    refine C.region ?_
    refine J.move rfl rfl rfl rfl rfl ?_
    refine J.bin rfl rfl rfl rfl rfl rfl (fun w => rfl) ?_
    refine J.nil ?_
    rcases Decidable.em (ptErr p = 0) with h2 | h2
    · have he : ptEnc p = (ptReg p, 0) := by unfold ptEnc; rw [if_pos h2]
      have hp := (ptErr_ok h2).1 p.ep (by simp [Pt.nums])
      have hlen := ptReg_len h2
      rw [he]
      refine C.cond_f rfl ?_
      refine C.skip ?_
      refine C.seq ?_
      refine C.seq ?_
      refine C.region ?_
      refine J.ldw 3 rfl rfl rfl rfl rfl Tryz.isAgg50 rfl Tryz.sizeOf50 ?_
      refine J.fld (k := 0) rfl rfl rfl rfl rfl Tryz.runUnderlying25 rfl rfl Tryz.sizeOf3 ?_
      refine J.ldo 2 rfl rfl rfl rfl rfl Tryz.isAgg3 rfl rfl ?_
      refine J.bin rfl rfl rfl rfl rfl rfl (fun w => rem2 _ hp.1) ?_
      refine J.bin rfl rfl rfl rfl rfl rfl (fun w => ra_mul (by omega)) ?_
      refine J.move rfl rfl rfl rfl rfl ?_
      rw [Int.mul_comm (p.ep % 2) 8]
      refine J.callrl rfl rfl rfl rfl rfl Tryz.call28 (fun w h => PutAll_calls w d _ _ _ _ (ptReg p) (h.bsa hs0) (h.wsa hc0) (h.rb 0 rfl) (by omega))  ?_
      rintro v31 R31 ⟨A1, c1, A2, c2, vs, fp, rfl, rfl⟩
      refine J.move rfl rfl rfl rfl rfl ?_
      refine J.ext rfl rfl rfl rfl rfl rfl ?_
      refine J.ext rfl rfl rfl rfl rfl rfl ?_
      first | refine J.stwc 6 rfl rfl rfl rfl rfl rfl Tryz.sizeOf50 (by first | rfl | assumption | simp [Value.cells, Value.oneCell']) rfl rfl ?_ | refine J.stw 6 rfl rfl rfl rfl rfl rfl Tryz.sizeOf50 (by first | rfl | assumption | simp [Value.cells, Value.oneCell']) rfl rfl ?_
      refine J.asg rfl rfl rfl rfl rfl ?_
      refine J.nil ?_
      refine C.seq ?_
      refine C.region ?_
      refine J.move rfl rfl rfl rfl rfl ?_
      refine J.bin rfl rfl rfl rfl rfl rfl (fun w => rfl) ?_
      refine J.nil ?_
      have hps : ptStore d p = if (dkPutAll d (8 * (p.ep % 2)) (ptReg p)).2 ≠ 0 then (dk0, (dkPutAll d (8 * (p.ep % 2)) (ptReg p)).2) else dkLand (fun _ => true) (dkPutAll d (8 * (p.ep % 2)) (ptReg p)).1 := by unfold ptStore; rw [if_neg h, if_neg (by omega)]
      refine C.cond rfl (fun h3 => ?_) (fun h3 => ?_)
      · have h3 : (dkPutAll d (8 * (p.ep % 2)) (ptReg p)).2 ≠ 0 := by simpa using h3
        rw [hps, if_pos h3]
        refine C.seq ?_
        refine C.region ?_
        refine J.bld (pl := #[(0, 1), (1, 1)]) (cells := #[_, _]) rfl rfl rfl rfl rfl Tryz.zeroValue50 Tryz.runUnderlying50 (fun w => by kernel_rfl) rfl ?_
        refine J.move rfl rfl rfl rfl rfl ?_
        first | refine J.stwc 4 rfl rfl rfl rfl rfl rfl Tryz.sizeOf50 (by first | rfl | assumption | simp [Value.cells, Value.oneCell']) rfl rfl ?_ | refine J.stw 4 rfl rfl rfl rfl rfl rfl Tryz.sizeOf50 (by first | rfl | assumption | simp [Value.cells, Value.oneCell']) rfl rfl ?_
        refine J.asg rfl rfl rfl rfl rfl ?_
        refine J.nil ?_
        refine C.ret ?_
        exact fin2 rfl (RV.cellw 4 rfl Tryz.isAgg50 rfl Tryz.sizeOf50) (RV.tmp rfl) (fun w' h => retDkZ h)
      · have h3 : ¬ (dkPutAll d (8 * (p.ep % 2)) (ptReg p)).2 ≠ 0 := by simpa using h3
        rw [hps, if_neg h3]
        refine C.skip ?_
        refine C.seq ?_
        refine C.region ?_
        refine J.ldw 6 rfl rfl rfl rfl rfl Tryz.isAgg50 rfl Tryz.sizeOf50 ?_
        refine J.callrl rfl rfl rfl rfl rfl Tryz.call43 (fun w h => Flush_calls w (dkPutAll d (8 * (p.ep % 2)) (ptReg p)).1 _ _ ((h.ord [0, 1] (by decide)).bsa_own) (h.rws 2 rfl))  ?_
        rintro v39 R39 ⟨A3, c3, A4, c4, vs2, fp2, rfl, rfl⟩
        refine J.ext rfl rfl rfl rfl rfl rfl ?_
        refine J.ext rfl rfl rfl rfl rfl rfl ?_
        first | refine J.stwc 7 rfl rfl rfl rfl rfl rfl Tryz.sizeOf50 (by first | rfl | assumption | simp [Value.cells, Value.oneCell']) rfl rfl ?_ | refine J.stw 7 rfl rfl rfl rfl rfl rfl Tryz.sizeOf50 (by first | rfl | assumption | simp [Value.cells, Value.oneCell']) rfl rfl ?_
        refine J.asg rfl rfl rfl rfl rfl ?_
        refine J.nil ?_
        refine C.ret ?_
        exact fin2 rfl (RV.cellw 7 rfl Tryz.isAgg50 rfl Tryz.sizeOf50) (RV.tmp rfl) (fun w' h => (h.ord [0, 1, 2] (by decide)).retL (List.Sublist.refl _) ⟨A3, c3, A4, c4, vs2, fp2, rfl, rfl⟩)
    · have he : ptEnc p = ([], ptErr p) := by unfold ptEnc; rw [if_neg h2]
      rw [he, show ptStore d p = (dk0, ptErr p) by unfold ptStore; rw [if_neg h, if_pos h2], show (ptErr p != 0) = true by simpa using h2]
      refine C.cond_t rfl ?_
      refine C.seq ?_
      refine C.region ?_
      refine J.bld (pl := #[(0, 1), (1, 1)]) (cells := #[_, _]) rfl rfl rfl rfl rfl Tryz.zeroValue50 Tryz.runUnderlying50 (fun w => by kernel_rfl) rfl ?_
      refine J.move rfl rfl rfl rfl rfl ?_
      first | refine J.stwc 1 rfl rfl rfl rfl rfl rfl Tryz.sizeOf50 (by first | rfl | assumption | simp [Value.cells, Value.oneCell']) rfl rfl ?_ | refine J.stw 1 rfl rfl rfl rfl rfl rfl Tryz.sizeOf50 (by first | rfl | assumption | simp [Value.cells, Value.oneCell']) rfl rfl ?_
      refine J.asg rfl rfl rfl rfl rfl ?_
      refine J.nil ?_
      refine C.ret ?_
      exact fin2 rfl (RV.cellw 1 rfl Tryz.isAgg50 rfl Tryz.sizeOf50) (RV.tmp rfl) (fun w' h => retDkZ h)
end Go.Proofs.YtiminmnmeknioaaGreatDoor

/- ref17.Store. -/
set_option linter.unusedVariables false
namespace Go.Proofs.YtiminmnmeknioaaGreatDoor
open Go Go.RowKit

theorem dkPutAll_len (d : Dk) (s : Int) (data : List UInt8) : (dkPutAll d s data).1.cache.length ≤ 4096 := by
  unfold dkPutAll
  split
  · exact Nat.zero_le _
  split
  · exact Nat.zero_le _
  split
  · exact Nat.zero_le _
  · rename_i h
    unfold dkPut
    rw [List.length_append, putW_len]
    omega
theorem rStore_calls (w : World) (d : Dk) (p : Pt) (sv cv dv : Value) (hs : BSA w sv d.secs) (hc : WSA w cv d.cache) (hx : BA w dv p.dt) (hl : p.dt.length ≤ 140737488355328) : Calls Tryz.prog 22 #[.agg #[sv, cv], .agg #[vi p.ep, vi p.sq, vi p.vw, vi p.cm, dv]] w (RetL No w (PRk (ptStore d p).1 (ptStore d p).2)) := by
  have hs0 := hs
  have hc0 := hc
  have hx0 := hx
  obtain ⟨As, cs, rfl, -, -, -⟩ := hs.form
  obtain ⟨Ac, cc, rfl, -, -, -⟩ := hc.form
  obtain ⟨A, c, rfl, -, -, -⟩ := hx.form
  refine calls_of_C Tryz.func22 rfl Tryz.ntmps22 (Nat.le_of_ble_eq_true rfl) ?_
  refine C.less (L' := [(0, _), (1, _)]) ?_ (Sub.cons rfl (Sub.cons rfl (Sub.nil _))) (fun w h => h)
  refine C.seq ?_
  refine C.region ?_
  first | refine J.boxc rfl rfl rfl rfl rfl rfl (fun b2 => ?_) | refine J.box rfl rfl rfl rfl rfl (fun b2 => ?_)
  first | refine J.boxc rfl rfl rfl rfl rfl rfl (fun b3 => ?_) | refine J.box rfl rfl rfl rfl rfl (fun b3 => ?_)
  refine J.allocc rfl rfl rfl rfl Tryz.zeroValue47 rfl (fun b4 => ?_)
  refine J.asg rfl rfl rfl rfl rfl ?_
  refine J.nil ?_
  refine C.seq ?_
  refine C.region ?_
  refine J.ldw 2 rfl rfl rfl rfl rfl Tryz.isAgg47 rfl Tryz.sizeOf47 ?_
  refine J.call0 rfl rfl rfl rfl rfl Tryz.call44 (fun w h => rasked_calls w d _ _ (h.bsa hs0) (h.wsa hc0)) ?_
  refine J.asg rfl rfl rfl rfl rfl ?_
  refine J.nil ?_
  refine C.seq ?_
  refine C.seq ?_
  refine C.region ?_
  refine J.move rfl rfl rfl rfl rfl ?_
  refine J.bin rfl rfl rfl rfl rfl rfl (fun w => rfl) ?_
  refine J.nil ?_
  refine C.cond rfl (fun h => ?_) (fun h => ?_)
  · have h : askErr d ≠ 0 := by simpa using h
    rw [show ptStore d p = (dk0, askErr d) by unfold ptStore; rw [if_pos h]]
    refine C.seq ?_
    refine C.region ?_
    refine J.bld (pl := #[(0, 1), (1, 1)]) (cells := #[_, _]) rfl rfl rfl rfl rfl Tryz.zeroValue47 Tryz.runUnderlying47 (fun w => by kernel_rfl) rfl ?_
    refine J.move rfl rfl rfl rfl rfl ?_
    first | refine J.stwc 0 rfl rfl rfl rfl rfl rfl Tryz.sizeOf47 (by first | rfl | assumption | simp [Value.cells, Value.oneCell']) rfl rfl ?_ | refine J.stw 0 rfl rfl rfl rfl rfl rfl Tryz.sizeOf47 (by first | rfl | assumption | simp [Value.cells, Value.oneCell']) rfl rfl ?_
    refine J.asg rfl rfl rfl rfl rfl ?_
    refine J.nil ?_
    refine C.ret ?_
    exact fin2 rfl (RV.cellw 0 rfl Tryz.isAgg47 rfl Tryz.sizeOf47) (RV.tmp rfl) (fun w' h => retRkZ h)
  · have h : ¬ askErr d ≠ 0 := by simpa using h
    refine C.skip ?_
    refine C.seq ?_
    refine C.region ?_
    refine J.ldw 1 rfl rfl rfl rfl rfl Tryz.isAgg24 rfl Tryz.sizeOf24 ?_
    refine J.callr rfl rfl rfl rfl rfl Tryz.call11 (fun w h => rEncode_pt_calls w p _ (h.ba hx0) hl)  ?_
    rintro v19 r19 ⟨Ae, ce, fe, -, -, rfl, rfl⟩
    refine J.move rfl rfl rfl rfl rfl ?_
    refine J.ext rfl rfl rfl rfl rfl rfl ?_
    refine J.ext rfl rfl rfl rfl rfl rfl ?_
    refine J.asg rfl rfl rfl rfl rfl ?_
    refine J.asg rfl rfl rfl rfl rfl ?_
    refine J.nil ?_
    refine C.seq ?_
    refine C.seq ?_
    refine C.region ?_
    refine J.move rfl rfl rfl rfl rfl ?_
    refine J.bin rfl rfl rfl rfl rfl rfl (fun w => rfl) ?_
    refine J.nil ?_
    rcases Decidable.em (ptErr p = 0) with h2 | h2
    · have he : ptEnc p = (ptReg p, 0) := by unfold ptEnc; rw [if_pos h2]
      have hp := (ptErr_ok h2).1 p.ep (by simp [Pt.nums])
      have hlen := ptReg_len h2
      rw [he]
      refine C.cond_f rfl ?_
      refine C.skip ?_
      refine C.seq ?_
      refine C.region ?_
      refine J.ldw 3 rfl rfl rfl rfl rfl Tryz.isAgg47 rfl Tryz.sizeOf47 ?_
      refine J.fld (k := 0) rfl rfl rfl rfl rfl Tryz.runUnderlying24 rfl rfl Tryz.sizeOf3 ?_
      refine J.ldo 2 rfl rfl rfl rfl rfl Tryz.isAgg3 rfl rfl ?_
      refine J.bin rfl rfl rfl rfl rfl rfl (fun w => rem2 _ hp.1) ?_
      refine J.bin rfl rfl rfl rfl rfl rfl (fun w => ra_mul (by omega)) ?_
      refine J.move rfl rfl rfl rfl rfl ?_
      refine J.callrl rfl rfl rfl rfl rfl Tryz.call31 (fun w h => rPutAll_calls w d _ _ _ _ (ptReg p) (h.bsa hs0) (h.wsa hc0) (h.rb 0 rfl) (by omega))  ?_
      rintro v33 R33 ⟨A1, c1, A2, c2, fp1, fp2, rfl, rfl⟩
      refine J.move rfl rfl rfl rfl rfl ?_
      refine J.ext rfl rfl rfl rfl rfl rfl ?_
      refine J.ext rfl rfl rfl rfl rfl rfl ?_
      refine J.allocc rfl rfl rfl rfl Tryz.zeroValue47 rfl (fun b9 => ?_)
      first | refine J.stwc 0 rfl rfl rfl rfl rfl rfl Tryz.sizeOf47 (by first | rfl | assumption | simp [Value.cells, Value.oneCell']) rfl rfl ?_ | refine J.stw 0 rfl rfl rfl rfl rfl rfl Tryz.sizeOf47 (by first | rfl | assumption | simp [Value.cells, Value.oneCell']) rfl rfl ?_
      refine J.asg rfl rfl rfl rfl rfl ?_
      refine J.nil ?_
      refine C.seq ?_
      refine C.seq ?_
      refine C.region ?_
      refine J.move rfl rfl rfl rfl rfl ?_
      refine J.bin rfl rfl rfl rfl rfl rfl (fun w => rfl) ?_
      refine J.nil ?_
      have hps : ptStore d p = if (dkPutAll d (8 * (p.ep % 2)) (ptReg p)).2 ≠ 0 then (dk0, (dkPutAll d (8 * (p.ep % 2)) (ptReg p)).2) else dkLand (fun _ => true) (dkPutAll d (8 * (p.ep % 2)) (ptReg p)).1 := by unfold ptStore; rw [if_neg h, if_neg (by omega)]
      refine C.cond rfl (fun h3 => ?_) (fun h3 => ?_)
      · have h3 : (dkPutAll d (8 * (p.ep % 2)) (ptReg p)).2 ≠ 0 := by simpa using h3
        rw [hps, if_pos h3]
        refine C.seq ?_
        refine C.region ?_
        refine J.bld (pl := #[(0, 1), (1, 1)]) (cells := #[_, _]) rfl rfl rfl rfl rfl Tryz.zeroValue47 Tryz.runUnderlying47 (fun w => by kernel_rfl) rfl ?_
        refine J.move rfl rfl rfl rfl rfl ?_
        first | refine J.stwc 4 rfl rfl rfl rfl rfl rfl Tryz.sizeOf47 (by first | rfl | assumption | simp [Value.cells, Value.oneCell']) rfl rfl ?_ | refine J.stw 4 rfl rfl rfl rfl rfl rfl Tryz.sizeOf47 (by first | rfl | assumption | simp [Value.cells, Value.oneCell']) rfl rfl ?_
        refine J.asg rfl rfl rfl rfl rfl ?_
        refine J.nil ?_
        refine C.ret ?_
        exact fin2 rfl (RV.cellw 4 rfl Tryz.isAgg47 rfl Tryz.sizeOf47) (RV.tmp rfl) (fun w' h => retRkZ h)
      · have h3 : ¬ (dkPutAll d (8 * (p.ep % 2)) (ptReg p)).2 ≠ 0 := by simpa using h3
        rw [hps, if_neg h3]
        refine C.skip ?_
        refine C.seq ?_
        refine C.region ?_
        refine J.ldw 0 rfl rfl rfl rfl rfl Tryz.isAgg47 rfl Tryz.sizeOf47 ?_
        refine J.callrl rfl rfl rfl rfl rfl Tryz.call45 (fun w h => rFlush_calls w (dkPutAll d (8 * (p.ep % 2)) (ptReg p)).1 _ _ (h.rbs 1 rfl) (h.rws 2 rfl) (Nat.le_trans (dkPutAll_len _ _ _) (by omega)))  ?_
        rintro v41 R41 ⟨A3, c3, A4, c4, fp3, fp4, rfl, rfl⟩
        refine J.ext rfl rfl rfl rfl rfl rfl ?_
        refine J.ext rfl rfl rfl rfl rfl rfl ?_
        first | refine J.stwc 6 rfl rfl rfl rfl rfl rfl Tryz.sizeOf47 (by first | rfl | assumption | simp [Value.cells, Value.oneCell']) rfl rfl ?_ | refine J.stw 6 rfl rfl rfl rfl rfl rfl Tryz.sizeOf47 (by first | rfl | assumption | simp [Value.cells, Value.oneCell']) rfl rfl ?_
        refine J.asg rfl rfl rfl rfl rfl ?_
        refine J.nil ?_
        refine C.ret ?_
        exact fin2 rfl (RV.cellw 6 rfl Tryz.isAgg47 rfl Tryz.sizeOf47) (RV.tmp rfl) (fun w' h => (h.ord [0, 1] (by decide)).retL (List.Sublist.refl _) ⟨A3, c3, A4, c4, fp3, fp4, rfl, rfl⟩)
    · have he : ptEnc p = ([], ptErr p) := by unfold ptEnc; rw [if_neg h2]
      rw [he, show ptStore d p = (dk0, ptErr p) by unfold ptStore; rw [if_neg h, if_pos h2], show (ptErr p != 0) = true by simpa using h2]
      refine C.cond_t rfl ?_
      refine C.seq ?_
      refine C.region ?_
      refine J.bld (pl := #[(0, 1), (1, 1)]) (cells := #[_, _]) rfl rfl rfl rfl rfl Tryz.zeroValue47 Tryz.runUnderlying47 (fun w => by kernel_rfl) rfl ?_
      refine J.move rfl rfl rfl rfl rfl ?_
      first | refine J.stwc 1 rfl rfl rfl rfl rfl rfl Tryz.sizeOf47 (by first | rfl | assumption | simp [Value.cells, Value.oneCell']) rfl rfl ?_ | refine J.stw 1 rfl rfl rfl rfl rfl rfl Tryz.sizeOf47 (by first | rfl | assumption | simp [Value.cells, Value.oneCell']) rfl rfl ?_
      refine J.asg rfl rfl rfl rfl rfl ?_
      refine J.nil ?_
      refine C.ret ?_
      exact fin2 rfl (RV.cellw 1 rfl Tryz.isAgg47 rfl Tryz.sizeOf47) (RV.tmp rfl) (fun w' h => retRkZ h)
end Go.Proofs.YtiminmnmeknioaaGreatDoor

/- point.Load. -/
set_option linter.unusedVariables false
namespace Go.Proofs.YtiminmnmeknioaaGreatDoor
open Go Go.RowKit

def ptStep (b y : Pt × Int) : Pt × Int := if y.2 = 0 ∧ (b.2 ≠ 0 ∨ y.1.ep > b.1.ep) then (y.1, 0) else b
def ptReg1 (d : Dk) (i : Int) : Pt × Int := ptDec (dkGetAll d (i * 8) 8).1
def ptLoads (d : Dk) : Nat → Pt × Int
  | 0 => (ptZero, 21)
  | k + 1 => ptStep (ptLoads d k) (ptReg1 d k)
def ptLoad (d : Dk) : Pt × Int := if askErr d ≠ 0 then (ptZero, askErr d) else ptLoads d 2
theorem getAll_len (d : Dk) (s : Int) : (dkGetAll d s 8).1.length ≤ 512 := by
  unfold dkGetAll
  split
  · exact Nat.zero_le _
  split
  · exact Nat.zero_le _
  · rename_i hb hr
    have hb : dkBad d = false := by simpa using hb
    obtain ⟨r1, r2, r3, r4⟩ := of_decide_eq_true (show roomOk d.secs.length s 8 = true by simpa using hr)
    show (lasts d s 8).length ≤ 512
    rw [lasts_len hb r1 8 (by omega)]
    exact Nat.le_refl _
theorem Load_calls (w : World) (d : Dk) (sv cv : Value) (hs : BSA w sv d.secs) (hc : WSA w cv d.cache) (hg : ErrTy w) : Calls Tryz.prog 23 #[.agg #[sv, cv]] w (Ret w (PPt (ptLoad d).1 (ptLoad d).2)) := by
  have hs0 := hs
  have hc0 := hc
  obtain ⟨As, cs, rfl, -, -, -⟩ := hs.form
  obtain ⟨Ac, cc, rfl, -, -, -⟩ := hc.form
  refine calls_of_C Tryz.func23 rfl Tryz.ntmps23 (Nat.le_of_ble_eq_true rfl) ?_
  refine C.less (L' := [(0, _)]) ?_ (Sub.cons rfl (Sub.nil _)) (fun w h => h)
  refine C.seq ?_
  refine C.region ?_
  first | refine J.boxc rfl rfl rfl rfl rfl rfl (fun b1 => ?_) | refine J.box rfl rfl rfl rfl rfl (fun b1 => ?_)
  refine J.allocc rfl rfl rfl rfl Tryz.zeroValue25 rfl (fun b2 => ?_)
  refine J.asg rfl rfl rfl rfl rfl ?_
  refine J.nil ?_
  refine C.seq ?_
  refine C.seq ?_
  refine C.region ?_
  refine J.ldw 1 rfl rfl rfl rfl rfl Tryz.isAgg50 rfl Tryz.sizeOf50 ?_
  refine J.call0 rfl rfl rfl rfl rfl Tryz.call42 (fun w h => asked_calls w d _ _ (h.bsa hs0) (h.wsa hc0)) ?_
  refine J.asg rfl rfl rfl rfl rfl ?_
  refine J.nil ?_
  refine C.seq ?_
  refine C.region ?_
  refine J.move rfl rfl rfl rfl rfl ?_
  refine J.bin rfl rfl rfl rfl rfl rfl (fun w => rfl) ?_
  refine J.nil ?_
  refine C.cond rfl (fun h => ?_) (fun h => ?_)
  · have h : askErr d ≠ 0 := by simpa using h
    rw [show ptLoad d = (ptZero, askErr d) by unfold ptLoad; rw [if_pos h]]
    refine C.seq ?_
    refine C.region ?_
    refine J.bld (pl := #[(0, 1), (1, 1), (2, 1), (3, 1), (4, 1)]) (cells := #[_, _, _, _, _]) rfl rfl rfl rfl rfl Tryz.zeroValue25 Tryz.runUnderlying25 (fun w => by kernel_rfl) rfl ?_
    refine J.move rfl rfl rfl rfl rfl ?_
    first | refine J.stwc 0 rfl rfl rfl rfl rfl rfl Tryz.sizeOf25 (by first | rfl | assumption | simp [Value.cells, Value.oneCell']) rfl rfl ?_ | refine J.stw 0 rfl rfl rfl rfl rfl rfl Tryz.sizeOf25 (by first | rfl | assumption | simp [Value.cells, Value.oneCell']) rfl rfl ?_
    refine J.asg rfl rfl rfl rfl rfl ?_
    refine J.nil ?_
    refine C.ret ?_
    exact fin2 rfl (RV.cellw 0 rfl Tryz.isAgg25 rfl Tryz.sizeOf25) (RV.tmp rfl) (fun w' h => retPtZ h)
  · have h : ¬ askErr d ≠ 0 := by simpa using h
    rw [show ptLoad d = ptLoads d 2 by unfold ptLoad; rw [if_neg h]]
    refine C.skip ?_
    refine C.seq ?_
    refine C.region ?_
    refine J.bld (pl := #[(0, 1), (1, 1), (2, 1), (3, 1), (4, 1)]) (cells := #[_, _, _, _, _]) rfl rfl rfl rfl rfl Tryz.zeroValue25 Tryz.runUnderlying25 (fun w => by kernel_rfl) rfl ?_
    refine J.allocc rfl rfl rfl rfl Tryz.zeroValue25 rfl (fun b5 => ?_)
    first | refine J.stwc 0 rfl rfl rfl rfl rfl rfl Tryz.sizeOf25 (by first | rfl | assumption | simp [Value.cells, Value.oneCell']) rfl rfl ?_ | refine J.stw 0 rfl rfl rfl rfl rfl rfl Tryz.sizeOf25 (by first | rfl | assumption | simp [Value.cells, Value.oneCell']) rfl rfl ?_
    refine J.asg rfl rfl rfl rfl rfl ?_
    refine J.nil ?_
    refine C.seq ?_
    refine C.seq ?_
    refine C.region ?_
    refine J.move rfl rfl rfl rfl rfl ?_
    refine J.nil ?_
    refine C.block ?_
    refine C.loop (σ := Nat × Option Addr × Nat × (Nat → Prop)) (fun q => q.1 ≤ 2) (fun q => [(1, .pointer (some ⟨b1, 0, none⟩)), (2, .pointer (some ⟨b2, 0, none⟩)), (5, .pointer (some ⟨b5, 0, none⟩)), (6, vi (ptLoads d q.1).2), (19, vi (q.1 : Int))]) (fun q => [rbR q.2.2.2 (.slice q.2.1 (ptLoads d q.1).1.dt.length q.2.2.1) (ptLoads d q.1).1.dt, blk b5 #[vi (ptLoads d q.1).1.ep, vi (ptLoads d q.1).1.sq, vi (ptLoads d q.1).1.vw, vi (ptLoads d q.1).1.cm, .slice q.2.1 (ptLoads d q.1).1.dt.length q.2.2.1] 25, blk b2 #[vi 0, vi 0, vi 0, vi 0, .slice none 0 0] 25, blk b1 #[.slice As d.secs.length cs, .slice Ac d.cache.length cc] 50]) (fun q => 2 - q.1) (0, none, 0, fun _ => False) (by show 0 ≤ 2; omega) ?_ ?_ ?_
    · exact (Sub.cons rfl (Sub.cons rfl (Sub.cons rfl (Sub.cons rfl (Sub.cons rfl (Sub.nil _))))))
    · exact fun w h => nilRb h
    rintro ⟨i, A, c, fp⟩ hi
    dsimp only at hi ⊢
    generalize hq : ptLoads d i = q
    obtain ⟨⟨qe, qs, qv, qc, qd⟩, qcode⟩ := q
    dsimp only
    refine C.seq ?_
    refine C.region ?_
    refine J.bin rfl rfl rfl rfl rfl rfl (fun w => rfl) ?_
    refine J.nil ?_
    refine C.seq ?_
    refine C.cond rfl (fun h5 => ?_) (fun h5 => ?_)
    · have hlt : i < 2 := by have := of_decide_eq_true h5; omega
      refine C.skip ?_
      refine C.seq ?_
      refine C.block ?_
      refine C.seq ?_
      refine C.region ?_
      refine J.move rfl rfl rfl rfl rfl ?_
      refine J.asg rfl rfl rfl rfl rfl ?_
      refine J.nil ?_
      refine C.seq ?_
      refine C.region ?_
      refine J.ldw 3 rfl rfl rfl rfl rfl Tryz.isAgg50 rfl Tryz.sizeOf50 ?_
      refine J.move rfl rfl rfl rfl rfl ?_
      refine J.bin rfl rfl rfl rfl rfl rfl (fun w => ra_mul (by omega)) ?_
      refine J.callr rfl rfl rfl rfl rfl Tryz.call46 (fun w h => GetAll_calls w d _ _ _ 8 (h.bsa hs0) (h.wsa hc0))  ?_
      rintro v26 r26 ⟨Ag, cg, fg, -, -, rfl, rfl⟩
      refine J.move rfl rfl rfl rfl rfl ?_
      refine J.ext rfl rfl rfl rfl rfl rfl ?_
      refine J.ext rfl rfl rfl rfl rfl rfl ?_
      refine J.asg rfl rfl rfl rfl rfl ?_
      refine J.asg rfl rfl rfl rfl rfl ?_
      refine J.nil ?_
      refine C.seq ?_
      refine C.region ?_
      refine J.move rfl rfl rfl rfl rfl ?_
      refine J.callr rfl rfl rfl rfl rfl Tryz.call12 (fun w h => Decode_pt_calls w _ _ (h.rb 0 rfl) (Nat.le_trans (getAll_len _ _) (by omega)) (h.err hg))  ?_
      rintro v31 r31 ⟨Ad, cd, fd, rfl, rfl⟩
      have hsucc : ptLoads d (i + 1) = ptStep ((⟨qe, qs, qv, qc, qd⟩ : Pt), qcode) (ptDec (dkGetAll d ((i : Int) * 8) 8).1) := by rw [← hq]; rfl
      generalize hy : ptDec (dkGetAll d ((i : Int) * 8) 8).1 = y at hsucc ⊢
      obtain ⟨⟨ye, ys, yv, yc, yd⟩, ycode⟩ := y
      dsimp only
      refine J.move rfl rfl rfl rfl rfl ?_
      refine J.ext rfl rfl rfl rfl rfl rfl ?_
      refine J.ext rfl rfl rfl rfl rfl rfl ?_
      refine J.allocc rfl rfl rfl rfl Tryz.zeroValue25 rfl (fun b10 => ?_)
      first | refine J.stwc 0 rfl rfl rfl rfl rfl rfl Tryz.sizeOf25 (by first | rfl | assumption | simp [Value.cells, Value.oneCell']) rfl rfl ?_ | refine J.stw 0 rfl rfl rfl rfl rfl rfl Tryz.sizeOf25 (by first | rfl | assumption | simp [Value.cells, Value.oneCell']) rfl rfl ?_
      refine J.asg rfl rfl rfl rfl rfl ?_
      refine J.nil ?_
      refine C.seq ?_
      refine C.region ?_
      refine J.move rfl rfl rfl rfl rfl ?_
      refine J.bin rfl rfl rfl rfl rfl rfl (fun w => rfl) ?_
      refine J.move rfl rfl rfl rfl rfl ?_
      rcases Decidable.em (ycode = 0) with k1 | k1
      · rw [show (ycode == 0) = true by simpa using k1]
        refine J.want rfl rfl rfl rfl ?_
        refine J.move rfl rfl rfl rfl rfl ?_
        refine J.want rfl rfl rfl rfl ?_
        refine J.bin rfl rfl rfl rfl rfl rfl (fun w => rfl) ?_
        refine J.want rfl rfl rfl rfl ?_
        refine J.move rfl rfl rfl rfl rfl ?_
        rcases Decidable.em (qcode = 0) with k2 | k2
        · rw [show (qcode != 0) = false by simpa using k2]
          refine J.want rfl rfl rfl rfl ?_
          refine J.fld (k := 0) rfl rfl rfl rfl rfl Tryz.runUnderlying25 rfl rfl Tryz.sizeOf3 ?_
          refine J.want rfl rfl rfl rfl ?_
          refine J.ldo 0 rfl rfl rfl rfl rfl Tryz.isAgg3 rfl rfl ?_
          refine J.want rfl rfl rfl rfl ?_
          refine J.fld (k := 0) rfl rfl rfl rfl rfl Tryz.runUnderlying25 rfl rfl Tryz.sizeOf3 ?_
          refine J.want rfl rfl rfl rfl ?_
          refine J.ldo 4 rfl rfl rfl rfl rfl Tryz.isAgg3 rfl rfl ?_
          refine J.want rfl rfl rfl rfl ?_
          refine J.bin rfl rfl rfl rfl rfl rfl (fun w => rfl) ?_
          refine J.want rfl rfl rfl rfl ?_
          refine J.pick rfl rfl rfl rfl rfl rfl ?_
          refine J.pick rfl rfl rfl rfl rfl rfl ?_
          refine J.nil ?_
          refine C.cond rfl (fun k3 => ?_) (fun k3 => ?_)
          · have k3 : ye > qe := of_decide_eq_true k3
            have hcase : ycode = 0 ∧ (qcode ≠ 0 ∨ ye > qe) := ⟨k1, .inr k3⟩
            refine C.region ?_
            refine J.ldw 0 rfl rfl rfl rfl rfl Tryz.isAgg25 rfl Tryz.sizeOf25 ?_
            first | refine J.stwc 4 rfl rfl rfl rfl rfl rfl Tryz.sizeOf25 (by first | rfl | assumption | simp [Value.cells, Value.oneCell']) rfl rfl ?_ | refine J.stw 4 rfl rfl rfl rfl rfl rfl Tryz.sizeOf25 (by first | rfl | assumption | simp [Value.cells, Value.oneCell']) rfl rfl ?_
            refine J.asg rfl rfl rfl rfl rfl ?_
            refine J.nil ?_
            refine C.region ?_
            refine J.bin rfl rfl rfl rfl rfl rfl (fun w => ra_add (by omega)) ?_
            refine J.move rfl rfl rfl rfl rfl ?_
            refine J.nil ?_
            have hn : ptLoads d (i + 1) = ((⟨ye, ys, yv, yc, yd⟩ : Pt), 0) := by rw [hsucc]; unfold ptStep; rw [if_pos hcase]
            refine ⟨rfl, (i + 1, Ad, cd, fd), by dsimp only; omega, by dsimp only; omega, ?_, fun w h => ?_⟩
            · dsimp only; rw [hn]; exact (Sub.cons rfl (Sub.cons rfl (Sub.cons rfl (Sub.cons rfl (Sub.cons rfl (Sub.nil _))))))
            · dsimp only; rw [hn]; exact h.ord [1, 4, 5, 6] (by decide)
          · have k3 : ¬ ye > qe := of_decide_eq_false k3
            have hcase : ¬ (ycode = 0 ∧ (qcode ≠ 0 ∨ ye > qe)) := fun h => h.2.elim (fun h => h k2) k3
            refine C.skip ?_
            refine C.region ?_
            refine J.bin rfl rfl rfl rfl rfl rfl (fun w => ra_add (by omega)) ?_
            refine J.move rfl rfl rfl rfl rfl ?_
            refine J.nil ?_
            have hn : ptLoads d (i + 1) = ((⟨qe, qs, qv, qc, qd⟩ : Pt), qcode) := by rw [hsucc]; unfold ptStep; rw [if_neg hcase]
            refine ⟨rfl, (i + 1, A, c, fp), by dsimp only; omega, by dsimp only; omega, ?_, fun w h => ?_⟩
            · dsimp only; rw [hn]; exact (Sub.cons rfl (Sub.cons rfl (Sub.cons rfl (Sub.cons rfl (Sub.cons rfl (Sub.nil _))))))
            · dsimp only; rw [hn]; exact h.ord [3, 4, 5, 6] (by decide)
        · rw [show (qcode != 0) = true by simpa using k2]
          refine J.pass rfl rfl rfl rfl rfl (by intro h; cases h) ?_
          refine J.pass rfl rfl rfl rfl rfl (by intro h; cases h) ?_
          refine J.pass rfl rfl rfl rfl rfl (by intro h; cases h) ?_
          refine J.pass rfl rfl rfl rfl rfl (by intro h; cases h) ?_
          refine J.pass rfl rfl rfl rfl rfl (by intro h; cases h) ?_
          refine J.want rfl rfl rfl rfl ?_
          refine J.pick rfl rfl rfl rfl rfl rfl ?_
          refine J.pick rfl rfl rfl rfl rfl rfl ?_
          refine J.nil ?_
          refine C.cond_t rfl ?_
          refine C.region ?_
          refine J.ldw 0 rfl rfl rfl rfl rfl Tryz.isAgg25 rfl Tryz.sizeOf25 ?_
          first | refine J.stwc 4 rfl rfl rfl rfl rfl rfl Tryz.sizeOf25 (by first | rfl | assumption | simp [Value.cells, Value.oneCell']) rfl rfl ?_ | refine J.stw 4 rfl rfl rfl rfl rfl rfl Tryz.sizeOf25 (by first | rfl | assumption | simp [Value.cells, Value.oneCell']) rfl rfl ?_
          refine J.asg rfl rfl rfl rfl rfl ?_
          refine J.nil ?_
          refine C.region ?_
          refine J.bin rfl rfl rfl rfl rfl rfl (fun w => ra_add (by omega)) ?_
          refine J.move rfl rfl rfl rfl rfl ?_
          refine J.nil ?_
          have hcase : ycode = 0 ∧ (qcode ≠ 0 ∨ ye > qe) := ⟨k1, .inl k2⟩
          have hn : ptLoads d (i + 1) = ((⟨ye, ys, yv, yc, yd⟩ : Pt), 0) := by rw [hsucc]; unfold ptStep; rw [if_pos hcase]
          refine ⟨rfl, (i + 1, Ad, cd, fd), by dsimp only; omega, by dsimp only; omega, ?_, fun w h => ?_⟩
          · dsimp only; rw [hn]; exact (Sub.cons rfl (Sub.cons rfl (Sub.cons rfl (Sub.cons rfl (Sub.cons rfl (Sub.nil _))))))
          · dsimp only; rw [hn]; exact h.ord [1, 4, 5, 6] (by decide)
      · rw [show (ycode == 0) = false by simpa using k1]
        refine J.pass rfl rfl rfl rfl rfl (by intro h; cases h) ?_
        refine J.pass rfl rfl rfl rfl rfl (by intro h; cases h) ?_
        refine J.pass rfl rfl rfl rfl rfl (by intro h; cases h) ?_
        refine J.pass rfl rfl rfl rfl rfl (by intro h; cases h) ?_
        refine J.pass rfl rfl rfl rfl rfl (by intro h; cases h) ?_
        refine J.pass rfl rfl rfl rfl rfl (by intro h; cases h) ?_
        refine J.pass rfl rfl rfl rfl rfl (by intro h; cases h) ?_
        refine J.pass rfl rfl rfl rfl rfl (by intro h; cases h) ?_
        refine J.pass rfl rfl rfl rfl rfl (by intro h; cases h) ?_
        refine J.pick rfl rfl rfl rfl rfl rfl ?_
        refine J.nil ?_
        refine C.cond_f rfl ?_
        refine C.skip ?_
        refine C.region ?_
        refine J.bin rfl rfl rfl rfl rfl rfl (fun w => ra_add (by omega)) ?_
        refine J.move rfl rfl rfl rfl rfl ?_
        refine J.nil ?_
        have hcase : ¬ (ycode = 0 ∧ (qcode ≠ 0 ∨ ye > qe)) := fun h => k1 h.1
        have hn : ptLoads d (i + 1) = ((⟨qe, qs, qv, qc, qd⟩ : Pt), qcode) := by rw [hsucc]; unfold ptStep; rw [if_neg hcase]
        refine ⟨rfl, (i + 1, A, c, fp), by dsimp only; omega, by dsimp only; omega, ?_, fun w h => ?_⟩
        · dsimp only; rw [hn]; exact (Sub.cons rfl (Sub.cons rfl (Sub.cons rfl (Sub.cons rfl (Sub.cons rfl (Sub.nil _))))))
        · dsimp only; rw [hn]; exact h.ord [3, 4, 5, 6] (by decide)
    · have hge : i = 2 := by have := of_decide_eq_false h5; omega
      subst hge
      rw [hq]
      refine C.exit rfl ?_
      refine C.seq ?_
      refine C.region ?_
      refine J.ldw 1 rfl rfl rfl rfl rfl Tryz.isAgg25 rfl Tryz.sizeOf25 ?_
      refine J.move rfl rfl rfl rfl rfl ?_
      first | refine J.stwc 2 rfl rfl rfl rfl rfl rfl Tryz.sizeOf25 (by first | rfl | assumption | simp [Value.cells, Value.oneCell']) rfl rfl ?_ | refine J.stw 2 rfl rfl rfl rfl rfl rfl Tryz.sizeOf25 (by first | rfl | assumption | simp [Value.cells, Value.oneCell']) rfl rfl ?_
      refine J.asg rfl rfl rfl rfl rfl ?_
      refine J.nil ?_
      refine C.ret ?_
      exact fin2 rfl (RV.cellw 2 rfl Tryz.isAgg25 rfl Tryz.sizeOf25) (RV.tmp rfl) (fun w' h => h.ret 0 rfl ⟨A, c, fp, rfl, rfl⟩)
end Go.Proofs.YtiminmnmeknioaaGreatDoor

/- ref17.Load. -/
set_option linter.unusedVariables false
namespace Go.Proofs.YtiminmnmeknioaaGreatDoor
open Go Go.RowKit

theorem ptStep2 (x y : Pt × Int) : ptStep (ptStep (ptZero, 21) x) y = if x.2 ≠ 0 ∧ y.2 ≠ 0 then (ptZero, 21) else if x.2 ≠ 0 ∨ (y.2 = 0 ∧ y.1.ep > x.1.ep) then (y.1, 0) else (x.1, 0) := by
  obtain ⟨x, a⟩ := x
  obtain ⟨y, b⟩ := y
  unfold ptStep
  dsimp only
  by_cases ha : a = 0
  · by_cases hb : b = 0
    · subst ha hb
      simp
    · subst ha
      simp [hb]
  · by_cases hb : b = 0
    · subst hb
      simp [ha]
    · simp [ha, hb]
theorem ptLoads2 (d : Dk) : ptLoads d 2 = ptStep (ptStep (ptZero, 21) (ptDec (dkGetAll d 0 8).1)) (ptDec (dkGetAll d 8 8).1) := rfl
theorem rLoad_calls (w : World) (d : Dk) (sv cv : Value) (hs : BSA w sv d.secs) (hc : WSA w cv d.cache) : Calls Tryz.prog 24 #[.agg #[sv, cv]] w (Ret w (PPt (ptLoad d).1 (ptLoad d).2)) := by
  have hs0 := hs
  have hc0 := hc
  obtain ⟨As, cs, rfl, -, -, -⟩ := hs.form
  obtain ⟨Ac, cc, rfl, -, -, -⟩ := hc.form
  refine calls_of_C Tryz.func24 rfl Tryz.ntmps24 (Nat.le_of_ble_eq_true rfl) ?_
  refine C.less (L' := [(0, _)]) ?_ (Sub.cons rfl (Sub.nil _)) (fun w h => h)
  refine C.seq ?_
  refine C.region ?_
  first | refine J.boxc rfl rfl rfl rfl rfl rfl (fun b1 => ?_) | refine J.box rfl rfl rfl rfl rfl (fun b1 => ?_)
  refine J.allocc rfl rfl rfl rfl Tryz.zeroValue24 rfl (fun b2 => ?_)
  refine J.asg rfl rfl rfl rfl rfl ?_
  refine J.nil ?_
  refine C.seq ?_
  refine C.region ?_
  refine J.ldw 1 rfl rfl rfl rfl rfl Tryz.isAgg47 rfl Tryz.sizeOf47 ?_
  refine J.call0 rfl rfl rfl rfl rfl Tryz.call44 (fun w h => rasked_calls w d _ _ (h.bsa hs0) (h.wsa hc0)) ?_
  refine J.asg rfl rfl rfl rfl rfl ?_
  refine J.nil ?_
  refine C.seq ?_
  refine C.seq ?_
  refine C.region ?_
  refine J.move rfl rfl rfl rfl rfl ?_
  refine J.bin rfl rfl rfl rfl rfl rfl (fun w => rfl) ?_
  refine J.nil ?_
  refine C.cond rfl (fun h => ?_) (fun h => ?_)
  · have h : askErr d ≠ 0 := by simpa using h
    rw [show ptLoad d = (ptZero, askErr d) by unfold ptLoad; rw [if_pos h]]
    refine C.seq ?_
    refine C.region ?_
    refine J.bld (pl := #[(0, 1), (1, 1), (2, 1), (3, 1), (4, 1)]) (cells := #[_, _, _, _, _]) rfl rfl rfl rfl rfl Tryz.zeroValue24 Tryz.runUnderlying24 (fun w => by kernel_rfl) rfl ?_
    refine J.move rfl rfl rfl rfl rfl ?_
    first | refine J.stwc 0 rfl rfl rfl rfl rfl rfl Tryz.sizeOf24 (by first | rfl | assumption | simp [Value.cells, Value.oneCell']) rfl rfl ?_ | refine J.stw 0 rfl rfl rfl rfl rfl rfl Tryz.sizeOf24 (by first | rfl | assumption | simp [Value.cells, Value.oneCell']) rfl rfl ?_
    refine J.asg rfl rfl rfl rfl rfl ?_
    refine J.nil ?_
    refine C.ret ?_
    exact fin2 rfl (RV.cellw 0 rfl Tryz.isAgg24 rfl Tryz.sizeOf24) (RV.tmp rfl) (fun w' h => retPtZ h)
  · have h : ¬ askErr d ≠ 0 := by simpa using h
    have hL : ptLoad d = ptStep (ptStep (ptZero, 21) (ptDec (dkGetAll d 0 8).1)) (ptDec (dkGetAll d 8 8).1) := by unfold ptLoad; rw [if_neg h]; rfl
    rw [hL, ptStep2]
    refine C.skip ?_
    refine C.seq ?_
    refine C.region ?_
    refine J.ldw 1 rfl rfl rfl rfl rfl Tryz.isAgg47 rfl Tryz.sizeOf47 ?_
    refine J.callr rfl rfl rfl rfl rfl Tryz.call47 (fun w h => rGetAll_calls w d _ _ 0 8 (h.bsa hs0) (h.wsa hc0))  ?_
    rintro v21 r21 ⟨Ag, cg, fg, -, -, rfl, rfl⟩
    refine J.move rfl rfl rfl rfl rfl ?_
    refine J.ext rfl rfl rfl rfl rfl rfl ?_
    refine J.ext rfl rfl rfl rfl rfl rfl ?_
    refine J.asg rfl rfl rfl rfl rfl ?_
    refine J.asg rfl rfl rfl rfl rfl ?_
    refine J.nil ?_
    refine C.seq ?_
    refine C.region ?_
    refine J.ldw 2 rfl rfl rfl rfl rfl Tryz.isAgg47 rfl Tryz.sizeOf47 ?_
    refine J.callr rfl rfl rfl rfl rfl Tryz.call47 (fun w h => rGetAll_calls w d _ _ 8 8 (h.bsa hs0) (h.wsa hc0))  ?_
    rintro v26 r26 ⟨Ah, ch, fh, -, -, rfl, rfl⟩
    refine J.move rfl rfl rfl rfl rfl ?_
    refine J.ext rfl rfl rfl rfl rfl rfl ?_
    refine J.ext rfl rfl rfl rfl rfl rfl ?_
    refine J.asg rfl rfl rfl rfl rfl ?_
    refine J.asg rfl rfl rfl rfl rfl ?_
    refine J.nil ?_
    refine C.seq ?_
    refine C.region ?_
    refine J.move rfl rfl rfl rfl rfl ?_
    refine J.callr rfl rfl rfl rfl rfl Tryz.call13 (fun w h => rDecode_pt_calls w _ _ (h.rb 1 rfl) (Nat.le_trans (getAll_len _ _) (by omega)))  ?_
    rintro v31 r31 ⟨Ax, cx, fx, rfl, rfl⟩
    generalize hx : ptDec (dkGetAll d 0 8).1 = x
    obtain ⟨⟨xe, xs, xv, xc, xd⟩, xcode⟩ := x
    dsimp only
    refine J.move rfl rfl rfl rfl rfl ?_
    refine J.ext rfl rfl rfl rfl rfl rfl ?_
    refine J.ext rfl rfl rfl rfl rfl rfl ?_
    refine J.allocc rfl rfl rfl rfl Tryz.zeroValue24 rfl (fun b9 => ?_)
    first | refine J.stwc 0 rfl rfl rfl rfl rfl rfl Tryz.sizeOf24 (by first | rfl | assumption | simp [Value.cells, Value.oneCell']) rfl rfl ?_ | refine J.stw 0 rfl rfl rfl rfl rfl rfl Tryz.sizeOf24 (by first | rfl | assumption | simp [Value.cells, Value.oneCell']) rfl rfl ?_
    refine J.asg rfl rfl rfl rfl rfl ?_
    refine J.nil ?_
    refine C.seq ?_
    refine C.region ?_
    refine J.move rfl rfl rfl rfl rfl ?_
    refine J.callr rfl rfl rfl rfl rfl Tryz.call13 (fun w h => rDecode_pt_calls w _ _ (h.rb 2 rfl) (Nat.le_trans (getAll_len _ _) (by omega)))  ?_
    rintro v36 r36 ⟨Ay, cy, fy, rfl, rfl⟩
    generalize hy : ptDec (dkGetAll d 8 8).1 = y
    obtain ⟨⟨ye, ys, yv, yc, yd⟩, ycode⟩ := y
    dsimp only
    refine J.move rfl rfl rfl rfl rfl ?_
    refine J.ext rfl rfl rfl rfl rfl rfl ?_
    refine J.ext rfl rfl rfl rfl rfl rfl ?_
    refine J.allocc rfl rfl rfl rfl Tryz.zeroValue24 rfl (fun b11 => ?_)
    first | refine J.stwc 0 rfl rfl rfl rfl rfl rfl Tryz.sizeOf24 (by first | rfl | assumption | simp [Value.cells, Value.oneCell']) rfl rfl ?_ | refine J.stw 0 rfl rfl rfl rfl rfl rfl Tryz.sizeOf24 (by first | rfl | assumption | simp [Value.cells, Value.oneCell']) rfl rfl ?_
    refine J.asg rfl rfl rfl rfl rfl ?_
    refine J.nil ?_
    refine C.seq ?_
    refine C.block ?_
    refine C.seq ?_
    refine C.region ?_
    refine J.move rfl rfl rfl rfl rfl ?_
    refine J.bin rfl rfl rfl rfl rfl rfl (fun w => rfl) ?_
    refine J.move rfl rfl rfl rfl rfl ?_
    rcases Decidable.em (xcode = 0) with k1 | k1
    · have hc1 : ¬ (xcode ≠ 0 ∧ ycode ≠ 0) := fun h => h.1 k1
      rw [show (xcode != 0) = false by simpa using k1]
      refine J.pass rfl rfl rfl rfl rfl (by intro h; cases h) ?_
      refine J.pass rfl rfl rfl rfl rfl (by intro h; cases h) ?_
      refine J.pick rfl rfl rfl rfl rfl rfl ?_
      refine J.asg rfl rfl rfl rfl rfl ?_
      refine J.nil ?_
      refine C.cond_f rfl ?_
      refine C.seq ?_
      refine C.region ?_
      refine J.move rfl rfl rfl rfl rfl ?_
      refine J.bin rfl rfl rfl rfl rfl rfl (fun w => rfl) ?_
      refine J.move rfl rfl rfl rfl rfl ?_
      rw [show (xcode != 0) = false by simpa using k1]
      refine J.want rfl rfl rfl rfl ?_
      refine J.move rfl rfl rfl rfl rfl ?_
      refine J.want rfl rfl rfl rfl ?_
      refine J.bin rfl rfl rfl rfl rfl rfl (fun w => rfl) ?_
      refine J.want rfl rfl rfl rfl ?_
      refine J.move rfl rfl rfl rfl rfl ?_
      rcases Decidable.em (ycode = 0) with k2 | k2
      · rw [show (ycode == 0) = true by simpa using k2]
        refine J.want rfl rfl rfl rfl ?_
        refine J.fld (k := 0) rfl rfl rfl rfl rfl Tryz.runUnderlying24 rfl rfl Tryz.sizeOf3 ?_
        refine J.want rfl rfl rfl rfl ?_
        refine J.ldo 0 rfl rfl rfl rfl rfl Tryz.isAgg3 rfl rfl ?_
        refine J.want rfl rfl rfl rfl ?_
        refine J.fld (k := 0) rfl rfl rfl rfl rfl Tryz.runUnderlying24 rfl rfl Tryz.sizeOf3 ?_
        refine J.want rfl rfl rfl rfl ?_
        refine J.ldo 2 rfl rfl rfl rfl rfl Tryz.isAgg3 rfl rfl ?_
        refine J.want rfl rfl rfl rfl ?_
        refine J.bin rfl rfl rfl rfl rfl rfl (fun w => rfl) ?_
        refine J.want rfl rfl rfl rfl ?_
        refine J.pick rfl rfl rfl rfl rfl rfl ?_
        refine J.pick rfl rfl rfl rfl rfl rfl ?_
        refine J.asg rfl rfl rfl rfl rfl ?_
        refine J.nil ?_
        refine C.cond rfl (fun k3 => ?_) (fun k3 => ?_)
        · have hc2 : xcode ≠ 0 ∨ (ycode = 0 ∧ ye > xe) := .inr ⟨k2, of_decide_eq_true k3⟩
          refine C.seq ?_
          refine C.region ?_
          refine J.ldw 0 rfl rfl rfl rfl rfl Tryz.isAgg24 rfl Tryz.sizeOf24 ?_
          first | refine J.stwc 6 rfl rfl rfl rfl rfl rfl Tryz.sizeOf24 (by first | rfl | assumption | simp [Value.cells, Value.oneCell']) rfl rfl ?_ | refine J.stw 6 rfl rfl rfl rfl rfl rfl Tryz.sizeOf24 (by first | rfl | assumption | simp [Value.cells, Value.oneCell']) rfl rfl ?_
          refine J.asg rfl rfl rfl rfl rfl ?_
          refine J.nil ?_
          refine C.ret ?_
          rw [if_neg hc1, if_pos hc2]
          exact fin2 rfl (RV.cellw 6 rfl Tryz.isAgg24 rfl Tryz.sizeOf24) (RV.tmp rfl) (fun w' h => h.ret 1 rfl ⟨Ay, cy, fy, rfl, rfl⟩)
        · have hc2 : ¬ (xcode ≠ 0 ∨ (ycode = 0 ∧ ye > xe)) := fun h => h.elim (fun h => h k1) (fun h => of_decide_eq_false k3 h.2)
          refine C.skip ?_
          refine C.seq ?_
          refine C.region ?_
          refine J.ldw 2 rfl rfl rfl rfl rfl Tryz.isAgg24 rfl Tryz.sizeOf24 ?_
          first | refine J.stwc 6 rfl rfl rfl rfl rfl rfl Tryz.sizeOf24 (by first | rfl | assumption | simp [Value.cells, Value.oneCell']) rfl rfl ?_ | refine J.stw 6 rfl rfl rfl rfl rfl rfl Tryz.sizeOf24 (by first | rfl | assumption | simp [Value.cells, Value.oneCell']) rfl rfl ?_
          refine J.asg rfl rfl rfl rfl rfl ?_
          refine J.nil ?_
          refine C.ret ?_
          rw [if_neg hc1, if_neg hc2]
          exact fin2 rfl (RV.cellw 6 rfl Tryz.isAgg24 rfl Tryz.sizeOf24) (RV.tmp rfl) (fun w' h => h.ret 3 rfl ⟨Ax, cx, fx, rfl, rfl⟩)
      · have hc2 : ¬ (xcode ≠ 0 ∨ (ycode = 0 ∧ ye > xe)) := fun h => h.elim (fun h => h k1) (fun h => k2 h.1)
        rw [show (ycode == 0) = false by simpa using k2]
        refine J.pass rfl rfl rfl rfl rfl (by intro h; cases h) ?_
        refine J.pass rfl rfl rfl rfl rfl (by intro h; cases h) ?_
        refine J.pass rfl rfl rfl rfl rfl (by intro h; cases h) ?_
        refine J.pass rfl rfl rfl rfl rfl (by intro h; cases h) ?_
        refine J.pass rfl rfl rfl rfl rfl (by intro h; cases h) ?_
        refine J.want rfl rfl rfl rfl ?_
        refine J.pick rfl rfl rfl rfl rfl rfl ?_
        refine J.pick rfl rfl rfl rfl rfl rfl ?_
        refine J.asg rfl rfl rfl rfl rfl ?_
        refine J.nil ?_
        refine C.cond_f rfl ?_
        refine C.skip ?_
        refine C.seq ?_
        refine C.region ?_
        refine J.ldw 2 rfl rfl rfl rfl rfl Tryz.isAgg24 rfl Tryz.sizeOf24 ?_
        first | refine J.stwc 6 rfl rfl rfl rfl rfl rfl Tryz.sizeOf24 (by first | rfl | assumption | simp [Value.cells, Value.oneCell']) rfl rfl ?_ | refine J.stw 6 rfl rfl rfl rfl rfl rfl Tryz.sizeOf24 (by first | rfl | assumption | simp [Value.cells, Value.oneCell']) rfl rfl ?_
        refine J.asg rfl rfl rfl rfl rfl ?_
        refine J.nil ?_
        refine C.ret ?_
        rw [if_neg hc1, if_neg hc2]
        exact fin2 rfl (RV.cellw 6 rfl Tryz.isAgg24 rfl Tryz.sizeOf24) (RV.tmp rfl) (fun w' h => h.ret 3 rfl ⟨Ax, cx, fx, rfl, rfl⟩)
    · have hc2 : xcode ≠ 0 ∨ (ycode = 0 ∧ ye > xe) := .inl k1
      rw [show (xcode != 0) = true by simpa using k1]
      refine J.want rfl rfl rfl rfl ?_
      refine J.move rfl rfl rfl rfl rfl ?_
      refine J.want rfl rfl rfl rfl ?_
      refine J.bin rfl rfl rfl rfl rfl rfl (fun w => rfl) ?_
      refine J.pick rfl rfl rfl rfl rfl rfl ?_
      refine J.asg rfl rfl rfl rfl rfl ?_
      refine J.nil ?_
      rcases Decidable.em (ycode = 0) with k2 | k2
      · have hc1 : ¬ (xcode ≠ 0 ∧ ycode ≠ 0) := fun h => h.2 k2
        rw [show (ycode != 0) = false by simpa using k2]
        refine C.cond_f rfl ?_
        refine C.seq ?_
        refine C.region ?_
        refine J.move rfl rfl rfl rfl rfl ?_
        refine J.bin rfl rfl rfl rfl rfl rfl (fun w => rfl) ?_
        refine J.move rfl rfl rfl rfl rfl ?_
        rw [show (xcode != 0) = true by simpa using k1]
        refine J.pass rfl rfl rfl rfl rfl (by intro h; cases h) ?_
        refine J.pass rfl rfl rfl rfl rfl (by intro h; cases h) ?_
        refine J.pass rfl rfl rfl rfl rfl (by intro h; cases h) ?_
        refine J.pass rfl rfl rfl rfl rfl (by intro h; cases h) ?_
        refine J.pass rfl rfl rfl rfl rfl (by intro h; cases h) ?_
        refine J.pass rfl rfl rfl rfl rfl (by intro h; cases h) ?_
        refine J.pass rfl rfl rfl rfl rfl (by intro h; cases h) ?_
        refine J.pass rfl rfl rfl rfl rfl (by intro h; cases h) ?_
        refine J.pass rfl rfl rfl rfl rfl (by intro h; cases h) ?_
        refine J.pick rfl rfl rfl rfl rfl rfl ?_
        refine J.asg rfl rfl rfl rfl rfl ?_
        refine J.nil ?_
        refine C.cond_t rfl ?_
        refine C.seq ?_
        refine C.region ?_
        refine J.ldw 0 rfl rfl rfl rfl rfl Tryz.isAgg24 rfl Tryz.sizeOf24 ?_
        first | refine J.stwc 6 rfl rfl rfl rfl rfl rfl Tryz.sizeOf24 (by first | rfl | assumption | simp [Value.cells, Value.oneCell']) rfl rfl ?_ | refine J.stw 6 rfl rfl rfl rfl rfl rfl Tryz.sizeOf24 (by first | rfl | assumption | simp [Value.cells, Value.oneCell']) rfl rfl ?_
        refine J.asg rfl rfl rfl rfl rfl ?_
        refine J.nil ?_
        refine C.ret ?_
        rw [if_neg hc1, if_pos hc2]
        exact fin2 rfl (RV.cellw 6 rfl Tryz.isAgg24 rfl Tryz.sizeOf24) (RV.tmp rfl) (fun w' h => h.ret 1 rfl ⟨Ay, cy, fy, rfl, rfl⟩)
      · rw [show (ycode != 0) = true by simpa using k2]
        refine C.cond_t rfl ?_
        refine C.seq ?_
        refine C.region ?_
        refine J.bld (pl := #[(0, 1), (1, 1), (2, 1), (3, 1), (4, 1)]) (cells := #[_, _, _, _, _]) rfl rfl rfl rfl rfl Tryz.zeroValue24 Tryz.runUnderlying24 (fun w => by kernel_rfl) rfl ?_
        first | refine J.stwc 6 rfl rfl rfl rfl rfl rfl Tryz.sizeOf24 (by first | rfl | assumption | simp [Value.cells, Value.oneCell']) rfl rfl ?_ | refine J.stw 6 rfl rfl rfl rfl rfl rfl Tryz.sizeOf24 (by first | rfl | assumption | simp [Value.cells, Value.oneCell']) rfl rfl ?_
        refine J.asg rfl rfl rfl rfl rfl ?_
        refine J.nil ?_
        refine C.ret ?_
        rw [if_pos ⟨k1, k2⟩]
        exact fin2 rfl (RV.cellw 6 rfl Tryz.isAgg24 rfl Tryz.sizeOf24) (RV.tmp rfl) (fun w' h => retPtZ h)
end Go.Proofs.YtiminmnmeknioaaGreatDoor

/- What was written is read back: plain lists. -/
set_option linter.unusedVariables false
namespace Go.Proofs.YtiminmnmeknioaaGreatDoor

theorem ofNat8 {n : Nat} (h : n < 256) : (UInt8.ofNat n).toNat = n := by
  rw [UInt8.toNat_ofNat']
  exact Nat.mod_eq_of_lt h
theorem pG_uv (r : List UInt8) : ∀ (k m n a : Nat), m < k → m * 2 ^ n < 2 ^ 64 → (n = 0 ∨ 0 < m) → n ≤ 63 → pG (uv m ++ r) n a = .ok (a + m * 2 ^ n, r) := by
  intro k
  induction k with
  | zero => intro m n a h; omega
  | succ k ih =>
    intro m n a hk hm hn h63
    by_cases h : m < 128
    · have hx := ofNat8 (n := m) (by omega)
      rw [uv_small h, List.singleton_append, pG_cons, hx, if_neg, if_pos h]
      rintro (⟨h1, h2⟩ | ⟨h1, h2⟩)
      · subst h1
        have : 2 * 2 ^ 63 ≤ m * 2 ^ 63 := Nat.mul_le_mul_right _ h2
        omega
      · omega
    · have hx := ofNat8 (n := m % 128 + 128) (by omega)
      have hn7 : n + 7 < 64 := by
        have h1 : 2 ^ (n + 7) ≤ m * 2 ^ n := by rw [Nat.pow_add, Nat.mul_comm]; exact Nat.mul_le_mul_right _ (by omega)
        exact (Nat.pow_lt_pow_iff_right (by omega)).1 (Nat.lt_of_le_of_lt h1 hm)
      rw [uv_big h, List.cons_append, pG_cons, hx, if_neg (by omega), if_neg (by omega), ih (m / 128) (n + 7) _ (by omega) ?_ (.inr (by omega)) (by omega)]
      · congr 2
        rw [show (m % 128 + 128) % 128 = m % 128 by omega, Nat.pow_add, Nat.add_assoc]
        congr 1
        have : m / 128 * (2 ^ n * 2 ^ 7) = (m / 128 * 128) * 2 ^ n := by rw [Nat.mul_assoc]; congr 1; rw [Nat.mul_comm]
        rw [this, ← Nat.add_mul]
        congr 1
        omega
      · rw [Nat.pow_add]
        have : m / 128 * (2 ^ n * 2 ^ 7) = (m / 128 * 128) * 2 ^ n := by rw [Nat.mul_assoc]; congr 1; rw [Nat.mul_comm]
        rw [this]
        exact Nat.lt_of_le_of_lt (Nat.mul_le_mul_right _ (by omega)) hm
theorem pG_uv0 (m : Nat) (r : List UInt8) (h : m < 2 ^ 64) : pG (uv m ++ r) 0 0 = .ok (m, r) := by
  have := pG_uv r (m + 1) m 0 0 (by omega) (by simpa using h) (.inl rfl) (by omega)
  simpa using this
theorem unf_fold {n : Int} (h : InR n) : unf (fold n) = n := by
  unfold InR at h
  unfold unf fold
  split <;> split <;> omega
theorem pNumsL_rec (r : List UInt8) : ∀ (nums acc : List Int), (∀ n ∈ nums, InR n) → pNumsL nums.length acc (recNums nums ++ r) = .ok (acc ++ nums, r) := by
  intro nums
  induction nums with
  | nil => intro acc _; simp [pNumsL, recNums]
  | cons n nums ih =>
    intro acc h
    have hn := h n (by simp)
    have e : recNums (n :: nums) ++ r = uv (fold n) ++ (recNums nums ++ r) := by unfold recNums; rw [List.flatMap_cons, List.append_assoc]
    rw [e, List.length_cons, pNumsL_ok (pG_uv0 _ _ (fold_lt hn)), unf_fold hn, ih _ (fun m hm => h m (by simp [hm]))]
    simp
theorem pText_rec (t r : List UInt8) (h : t.length ≤ 4096) : pText (uv t.length ++ t ++ r) = .ok (t, r) := by
  unfold pText
  rw [List.append_assoc, pG_uv0 _ _ (by omega)]
  dsimp only
  rw [if_neg (by omega)]
  unfold pTake
  rw [if_neg (by simp), List.take_left, List.drop_left]
theorem pTextsL_rec (r : List UInt8) : ∀ (ts acc : List (List UInt8)), (∀ t ∈ ts, t.length ≤ 4096) → pTextsL ts.length acc (recTexts ts ++ r) = .ok (acc ++ ts, r) := by
  intro ts
  induction ts with
  | nil => intro acc _; simp [pTextsL, recTexts]
  | cons t ts ih =>
    intro acc h
    have e : recTexts (t :: ts) ++ r = uv t.length ++ t ++ (recTexts ts ++ r) := by unfold recTexts; rw [List.flatMap_cons, List.append_assoc]
    rw [e, List.length_cons, pTextsL_ok (pText_rec t _ (h t (by simp))), ih _ (fun m hm => h m (by simp [hm]))]
    simp
theorem pRec_body {kind : Nat} {nums : List Int} {texts : List (List UInt8)} (hk : kind < 256) (hn : nums.length ≤ 64) (ht : texts.length ≤ 64) (h1 : ∀ n ∈ nums, InR n) (h2 : ∀ t ∈ texts, t.length ≤ 4096) : pRec (recBody (kind : Int) nums texts) = .ok ((kind : Int), nums, texts) := by
  have e : recBody (kind : Int) nums texts = UInt8.ofNat kind :: (UInt8.ofNat nums.length :: (recNums nums ++ (UInt8.ofNat texts.length :: (recTexts texts ++ [])))) := by
    unfold recBody
    simp
  have h3 : pNums (UInt8.ofNat nums.length :: (recNums nums ++ (UInt8.ofNat texts.length :: (recTexts texts ++ [])))) = .ok (nums, UInt8.ofNat texts.length :: (recTexts texts ++ [])) := by
    rw [pNums_ok (n := nums.length) (r := recNums nums ++ (UInt8.ofNat texts.length :: (recTexts texts ++ []))) (by simp only [pCount]; rw [ofNat8 (by omega), if_neg (by omega)]), pNumsL_rec _ _ _ h1]
    simp
  have h4 : pTexts (UInt8.ofNat texts.length :: (recTexts texts ++ [])) = .ok (texts, []) := by
    rw [pTexts_ok (n := texts.length) (r := recTexts texts ++ []) (by simp only [pCount]; rw [ofNat8 (by omega), if_neg (by omega)]), pTextsL_rec _ _ _ h2]
    simp
  rw [e]
  unfold pRec
  simp only [pOctet]
  rw [h3]
  dsimp only
  rw [h4]
  dsimp only
  rw [if_neg (by simp), ofNat8 hk]
theorem le4_len (c : UInt32) : (le4 c).length = 4 := rfl
theorem opened_sealed (xs : List UInt8) : opened (xs ++ le4 (crcSum xs)) = (xs, 0) := by
  have h1 : (xs ++ le4 (crcSum xs)).length - 4 = xs.length := by rw [List.length_append, le4_len]; omega
  unfold opened
  rw [h1, List.take_left, List.drop_left, if_neg (by rw [List.length_append, le4_len]; omega), if_pos rfl]
theorem ptBody {p : Pt} (h : ptErr p = 0) : ptRec p = recBody 7 p.nums [p.dt] ++ le4 (crcSum (recBody 7 p.nums [p.dt])) := by
  have h0 := (ptRec_eq h).1
  unfold encRec at h0
  split at h0
  · injection h0 with h1 h2; exact h1.symm
  · injection h0 with h1 h2; exact absurd h2 (by assumption)
theorem decRec_pt {p : Pt} (h : ptErr p = 0) : decRec (ptRec p) = .ok (7, p.nums, [p.dt]) := by
  obtain ⟨hn, hd⟩ := ptErr_ok h
  unfold decRec
  rw [ptBody h, opened_sealed, if_neg (by simp)]
  exact pRec_body (kind := 7) (by omega) (by simp [Pt.nums]) (by simp) (fun n hn' => by have := hn n hn'; unfold InR; omega) (fun t ht => by rw [List.mem_singleton] at ht; subst ht; omega)
theorem all0_rep (n : Nat) : all0 (List.replicate n 0) := fun x hx => (List.mem_replicate.1 hx).2
/-- A point is read back. -/
theorem ptDec_reg {p : Pt} (h : ptErr p = 0) : ptDec (ptReg p) = (p, 0) := by
  have hl := (ptRec_eq h).2
  have e : ptReg p = UInt8.ofNat ((ptRec p).length / 256) :: UInt8.ofNat (ptRec p).length :: (ptRec p ++ List.replicate (510 - (ptRec p).length) 0) := by unfold ptReg be2; simp
  have hN : (UInt8.ofNat ((ptRec p).length / 256)).toNat * 256 + (UInt8.ofNat (ptRec p).length).toNat = (ptRec p).length := by
    rw [ofNat8 (by omega), UInt8.toNat_ofNat']
    omega
  rw [e, ptDec_go (by simp; omega) (by rw [hN]; omega), hN, List.take_left, List.drop_left, decRec_pt h]
  unfold ptOfRec
  dsimp only [Pt.nums]
  rw [if_neg (by simp), if_neg (by rw [show (⟨p.ep, p.sq, p.vw, p.cm, p.dt⟩ : Pt) = p from rfl, h]; simp), show decide (¬ all0 (List.replicate (510 - (ptRec p).length) 0)) = false from decide_eq_false (fun h => h (all0_rep _))]
  rfl
end Go.Proofs.YtiminmnmeknioaaGreatDoor
