/- disk.New. -/
import Derived.Test.YtiminmnmeknioaaDoorBa2
import Derived.Test.YtiminmnmeknioaaDoorRows
set_option linter.unusedVariables false
namespace Go.Proofs.YtiminmnmeknioaaDoor
open Go Go.RowKit

def sec0 : List UInt8 := List.replicate 64 0
def dkNew (n : Int) : Dk × Int := if n < 1 ∨ n > 2048 then (⟨[], []⟩, 4) else (⟨List.replicate n.toNat sec0, []⟩, 0)
/-- A disk in memory of the call's own. -/
def PDk (d : Dk) (e : Int) : Value → List Res → Prop := fun v Rs => ∃ A1 c1 A2 c2 vs fp, Rs = [rowR 22 1 (.slice A1 d.secs.length c1) d.secs.length vs, gR 5 vs d.secs, rwsR fp (.slice A2 d.cache.length c2) d.cache] ∧ v = .tuple #[.agg #[.slice A1 d.secs.length c1, .slice A2 d.cache.length c2], vi e]
theorem nilRws {mu : Nat → Prop} {w0 w : World} {M : List Res} (h : St mu w0 M w) : St mu w0 (rwsR (fun _ => False) (.slice none 0 0) [] :: M) w :=
  h.grow (Below.refl _ w) RWS.nil (fun b hb => hb.elim)
theorem retDkZ {w w' : World} {M : List Res} {e : Int} (h : St No w M w') : RetL No w (PDk ⟨[], []⟩ e) (.returned (.tuple #[.agg #[.slice none 0 0, .slice none 0 0], vi e])) w' :=
  (((nilRws h).gnil 5).nilRow 22 1).retL (Rs := [_, _, _]) ((((List.nil_sublist _).cons_cons _).cons_cons _).cons_cons _) ⟨none, 0, none, 0, [], _, rfl, rfl⟩
theorem zero_row {mu : Nat → Prop} {w0 w : World} {M : List Res} {b : Nat} {e : TypeId} (h : St mu w0 (blk b (List.replicate 64 (Value.int .u8 0)).toArray e :: M) w) : St mu w0 (rowR e 1 (.slice (some ⟨b, 0, none⟩) 64 64) sec0.length (sec0.map vu8) :: M) w := by
  have h2 := blk_row (n := 64) (sz := 1) h (by omega) (by simp)
  have e1 : sec0.length = 64 := by simp [sec0]
  have e2 : sec0.map vu8 = List.replicate 64 (Value.int .u8 0) := by unfold sec0; rw [List.map_replicate]; rfl
  rw [e1, e2]
  exact h2
theorem New_calls (w : World) (n : Int) : Calls Tryd.prog 10 #[vi n] w (RetL No w (PDk (dkNew n).1 (dkNew n).2)) := by
  refine calls_of_C Tryd.func10 rfl Tryd.ntmps10 (Nat.le_of_ble_eq_true rfl) ?_
  refine C.less (L' := [(0, _)]) ?_ (Sub.cons rfl (Sub.nil _)) (fun w h => h)
  refine C.seq ?_
  refine C.region ?_
  refine J.allocc rfl rfl rfl rfl Tryd.zeroValue39 rfl (fun b2 => ?_)
  refine J.asg rfl rfl rfl rfl rfl ?_
  refine J.nil ?_
  refine C.seq ?_
  refine C.seq ?_
  refine C.region ?_
  refine J.move rfl rfl rfl rfl rfl ?_
  refine J.bin rfl rfl rfl rfl rfl rfl (fun w => rfl) ?_
  refine J.move rfl rfl rfl rfl rfl ?_
  rcases Decidable.em (n < 1) with h1 | h1
  · have e : dkNew n = (⟨[], []⟩, 4) := by unfold dkNew; rw [if_pos (.inl h1)]
    rw [e, dec_t h1]
    refine J.pass rfl rfl rfl rfl rfl (by intro h; cases h) ?_
    refine J.pass rfl rfl rfl rfl rfl (by intro h; cases h) ?_
    refine J.pick rfl rfl rfl rfl rfl rfl ?_
    refine J.nil ?_
    refine C.cond_t rfl ?_
    refine C.seq ?_
    refine C.region ?_
    refine J.bld (pl := #[(0, 1), (1, 1)]) (cells := #[_, _]) rfl rfl rfl rfl rfl Tryd.zeroValue39 Tryd.runUnderlying39 (fun w => by kernel_rfl) rfl ?_
    first | refine J.stwc 0 rfl rfl rfl rfl rfl rfl Tryd.sizeOf39 (by first | rfl | assumption | simp [Value.cells, Value.oneCell']) rfl rfl ?_ | refine J.stw 0 rfl rfl rfl rfl rfl rfl Tryd.sizeOf39 (by first | rfl | assumption | simp [Value.cells, Value.oneCell']) rfl rfl ?_
    refine J.asg rfl rfl rfl rfl rfl ?_
    refine J.nil ?_
    refine C.ret ?_
    exact fin2 rfl (RV.cellw 0 rfl Tryd.isAgg39 rfl Tryd.sizeOf39) (RV.tmp rfl) (fun w' h => retDkZ h)
  · rw [dec_f h1]
    refine J.want rfl rfl rfl rfl ?_
    refine J.move rfl rfl rfl rfl rfl ?_
    refine J.want rfl rfl rfl rfl ?_
    refine J.bin rfl rfl rfl rfl rfl rfl (fun w => rfl) ?_
    refine J.pick rfl rfl rfl rfl rfl rfl ?_
    refine J.nil ?_
    refine C.cond rfl (fun h2 => ?_) (fun h2 => ?_)
    · have e : dkNew n = (⟨[], []⟩, 4) := by unfold dkNew; rw [if_pos (.inr (of_decide_eq_true h2))]
      rw [e]
      refine C.seq ?_
      refine C.region ?_
      refine J.bld (pl := #[(0, 1), (1, 1)]) (cells := #[_, _]) rfl rfl rfl rfl rfl Tryd.zeroValue39 Tryd.runUnderlying39 (fun w => by kernel_rfl) rfl ?_
      first | refine J.stwc 0 rfl rfl rfl rfl rfl rfl Tryd.sizeOf39 (by first | rfl | assumption | simp [Value.cells, Value.oneCell']) rfl rfl ?_ | refine J.stw 0 rfl rfl rfl rfl rfl rfl Tryd.sizeOf39 (by first | rfl | assumption | simp [Value.cells, Value.oneCell']) rfl rfl ?_
      refine J.asg rfl rfl rfl rfl rfl ?_
      refine J.nil ?_
      refine C.ret ?_
      exact fin2 rfl (RV.cellw 0 rfl Tryd.isAgg39 rfl Tryd.sizeOf39) (RV.tmp rfl) (fun w' h => retDkZ h)
    · have h2 := of_decide_eq_false h2
      have e : dkNew n = (⟨List.replicate n.toNat sec0, []⟩, 0) := by unfold dkNew; rw [if_neg (by omega)]
      rw [e]
      refine C.skip ?_
      refine C.seq ?_
      refine C.region ?_
      refine J.allocc rfl rfl rfl rfl Tryd.zeroValue39 rfl (fun b4 => ?_)
      refine J.nil ?_
      refine C.seq ?_
      refine C.seq ?_
      refine C.region ?_
      refine J.move rfl rfl rfl rfl rfl ?_
      refine J.move rfl rfl rfl rfl rfl ?_
      refine J.nil ?_
      refine C.block ?_
      refine C.loop (σ := Nat × Value × List Value) (fun s => (s.1 : Int) ≤ n) (fun s => [(2, .pointer (some ⟨b2, 0, none⟩)), (4, .pointer (some ⟨b4, 0, none⟩)), (12, vi n), (13, vi (s.1 : Int))]) (fun s => [rowR 22 1 s.2.1 s.1 s.2.2, gR 5 s.2.2 (List.replicate s.1 sec0), blk b4 #[s.2.1, .slice none 0 0] 39, blk b2 #[.slice none 0 0, .slice none 0 0] 39]) (fun s => n.toNat - s.1) (0, .slice none 0 0, []) (by show (0 : Int) ≤ n; omega) ?_ ?_ ?_
      · exact (Sub.cons rfl (Sub.cons rfl (Sub.cons rfl (Sub.cons rfl (Sub.nil _)))))
      · exact fun w h => (h.gnil _).nilRow _ _
      rintro ⟨i, v, vs⟩ hi
      dsimp only at hi ⊢
      refine C.seq ?_
      refine C.region ?_
      refine J.bin rfl rfl rfl rfl rfl rfl (fun w => rfl) ?_
      refine J.nil ?_
      refine C.seq ?_
      refine C.cond rfl (fun h5 => ?_) (fun h5 => ?_)
      · have h5 := of_decide_eq_true h5
        refine C.skip ?_
        refine C.seq ?_
        refine C.block ?_
        refine C.regionD (fun w' => St No w [blk b4 #[v, .slice none 0 0] 39] w') 6 (by kernel_rfl) ?_
        refine JD.take 0 rfl rfl rfl rfl (by kernel_rfl) (fun w h => ((by first | exact h.pick 2 rfl | exact h.pick 3 rfl | exact h.pick 4 rfl))) (R.fld (k := 0) rfl rfl Tryd.runUnderlying39 rfl rfl Tryd.sizeOf36) ?_
        refine JD.take 1 rfl rfl rfl rfl (by kernel_rfl) (fun w h => ((by first | exact h.pick 2 rfl | exact h.pick 3 rfl | exact h.pick 4 rfl))) (R.ld rfl rfl Tryd.isAgg36 (fun w h => cellO h 0 rfl rfl)) ?_
        refine JD.step 2 rfl (by kernel_rfl) ?_
        refine J.mk rfl rfl rfl rfl rfl rfl (n := 64) rfl rfl  Tryd.underlying22 inf5 rfl  (by omega) (by omega) (fun b17 => ?_)
        refine J.nil ⟨(fun _ w h => ((by first | exact h.pick 2 rfl | exact h.pick 3 rfl | exact h.pick 4 rfl))), ?_⟩
        refine JD.step 3 rfl (by kernel_rfl) ?_
        refine J.blds (vs := [_]) (cells := [_]) rfl rfl rfl rfl rfl Tryd.zeroValue22 Tryd.runUnderlying36 Tryd.sizeOf22 rfl rfl rfl rfl (fun b18 => ?_)
        refine J.nil ⟨(fun _ w h => ((by first | exact h.pick 2 rfl | exact h.pick 3 rfl | exact h.pick 4 rfl))), ?_⟩
        refine JD.step 4 rfl (by kernel_rfl) ?_
        refine J.app 2 rfl rfl rfl rfl rfl rfl Tryd.underlying36 inf22 rfl rfl rfl rfl (news := [.slice (some ⟨b17, 0, none⟩) 64 64]) rfl (fun w h hn => srcO h 0 rfl) rfl (by omega) (fun v19 => ?_)
        refine J.fact (fun w h => row_form (h.get 2 rfl)) ?_
        rintro ⟨A19, c19, rfl, -, -⟩
        refine J.nil ⟨(fun _ w h => ((by first | exact h.pick 2 rfl | exact h.pick 3 rfl | exact h.pick 4 rfl))), ?_⟩
        refine JD.take 5 rfl rfl rfl rfl (by kernel_rfl) (fun w h => ((by first | exact h.pick 2 rfl | exact h.pick 3 rfl | exact h.pick 4 rfl))) (R.fld (k := 0) rfl rfl Tryd.runUnderlying39 rfl rfl Tryd.sizeOf36) ?_
        refine JD.step 6 rfl (by kernel_rfl) ?_
        refine J.st1 4 rfl rfl rfl rfl rfl rfl Tryd.sizeOf36 (by first | rfl | assumption | simp [Value.cells, Value.oneCell']) rfl rfl rfl ?_
        refine J.nil ⟨(fun h => by cases h), ?_⟩
        refine JD.done (by kernel_rfl) ?_
        refine C.region ?_
        refine J.bin rfl rfl rfl rfl rfl rfl (fun w => ra_add (by omega)) ?_
        refine J.move rfl rfl rfl rfl rfl ?_
        refine J.nil ?_
        refine ⟨rfl, (i + 1, .slice A19 (i + 1) c19, vs ++ [.slice (some ⟨b17, 0, none⟩) 64 64]), by dsimp only; omega, by dsimp only; omega, (Sub.cons rfl (Sub.cons rfl (Sub.cons rfl (Sub.cons rfl (Sub.nil _))))), fun w h => ?_⟩
        have g1 := zero_row (h.sub ((List.Sublist.refl _).cons _))
        have g2 := ((g1.front 2 rfl).front 1 rfl).gsnoc
        rw [← List.replicate_succ'] at g2
        exact g2.front 1 rfl
      · have h5 := of_decide_eq_false h5
        have hin : n.toNat = i := by omega
        rw [hin]
        refine C.fact (fun w h => row_form (h.get 0 rfl)) ?_
        rintro ⟨A1, c1, rfl, -, -⟩
        refine C.exit rfl ?_
        refine C.seq ?_
        refine C.region ?_
        refine J.ldw 2 rfl rfl rfl rfl rfl Tryd.isAgg39 rfl Tryd.sizeOf39 ?_
        first | refine J.stwc 3 rfl rfl rfl rfl rfl rfl Tryd.sizeOf39 (by first | rfl | assumption | simp [Value.cells, Value.oneCell']) rfl rfl ?_ | refine J.stw 3 rfl rfl rfl rfl rfl rfl Tryd.sizeOf39 (by first | rfl | assumption | simp [Value.cells, Value.oneCell']) rfl rfl ?_
        refine J.asg rfl rfl rfl rfl rfl ?_
        refine J.nil ?_
        refine C.ret ?_
        refine fin2 rfl (RV.cellw 3 rfl Tryd.isAgg39 rfl Tryd.sizeOf39) (RV.tmp rfl) (fun w' h => ?_)
        refine (((nilRws h).front 2 rfl).front 2 rfl).retL (Rs := [_, _, _]) ((((List.nil_sublist _).cons_cons _).cons_cons _).cons_cons _) ⟨A1, c1, none, 0, vs, fun _ => False, ?_, ?_⟩
        · rw [List.length_replicate]; rfl
        · rw [List.length_replicate]; rfl
end Go.Proofs.YtiminmnmeknioaaDoor

/- disk.Check: the search among sectors. -/
set_option linter.unusedVariables false
namespace Go.Proofs.YtiminmnmeknioaaDoor
open Go Go.RowKit

def oddS (x : List UInt8) : Bool := decide (x.length ≠ 64)
abbrev fOdd : Value := .func (.func 57) #[] #[]
theorem odd_calls (w : World) (v : Value) (x : List UInt8) (hx : BA w v x) : Calls Tryd.prog 57 #[v] w (Ret0 w (.bool (oddS x))) := by
  obtain ⟨A, c, rfl, h1, h2, h3⟩ := hx.form
  refine calls_of_C Tryd.func57 rfl Tryd.ntmps57 (Nat.le_of_ble_eq_true rfl) ?_
  refine C.less (L' := [(0, _)]) ?_ (Sub.cons rfl (Sub.nil _)) (fun w h => h)
  refine C.seq ?_
  refine C.region ?_
  refine J.asg rfl rfl rfl rfl rfl ?_
  refine J.nil ?_
  refine C.seq ?_
  refine C.region ?_
  refine J.move rfl rfl rfl rfl rfl ?_
  refine J.len rfl rfl rfl rfl rfl Tryd.runUnderlying22 ?_
  refine J.bin rfl rfl rfl rfl rfl rfl (fun w => rfl) ?_
  refine J.asg rfl rfl rfl rfl rfl ?_
  refine J.nil ?_
  refine C.ret ?_
  have e : ((x.length : Int) != 64) = oddS x := by
    unfold oddS
    by_cases h : x.length = 64
    · simp [h]
    · have : (x.length : Int) ≠ 64 := by omega
      simp [h, this]
  rw [e]
  exact fin1 rfl (RV.tmp rfl) (fun w' h => h.ret0)
theorem indexS_calls (w : World) (v : Value) (xss : List (List UInt8)) (hx : BSA w v xss) : Calls Tryd.prog 76 #[v, fOdd] w (RetV w (fun z => ∃ i : Int, z = vi i ∧ (0 ≤ i ↔ xss.any oddS = true))) := by
  obtain ⟨A, c, rfl, h1, h2, h3⟩ := hx.form
  refine calls_of_C Tryd.func76 rfl Tryd.ntmps76 (Nat.le_of_ble_eq_true rfl) ?_
  refine C.less (L' := [(0, _), (1, _)]) ?_ (Sub.cons rfl (Sub.cons rfl (Sub.nil _))) (fun w h => h)
  refine C.seq ?_
  refine C.region ?_
  refine J.asg rfl rfl rfl rfl rfl ?_
  refine J.nil ?_
  refine C.seq ?_
  refine C.seq ?_
  refine C.region ?_
  refine J.move rfl rfl rfl rfl rfl ?_
  refine J.len rfl rfl rfl rfl rfl Tryd.runUnderlying36 ?_
  refine J.move rfl rfl rfl rfl rfl ?_
  refine J.nil ?_
  refine C.block ?_
  refine C.loop (fun i : Nat => i ≤ xss.length ∧ (xss.take i).any oddS = false) (fun i => [(0, .slice A xss.length c), (1, fOdd), (7, vi (xss.length : Int)), (8, vi (i : Int))]) (fun i => []) (fun i => xss.length - i) 0 ⟨Nat.zero_le _, rfl⟩ ?_ ?_ ?_
  · exact (Sub.cons rfl (Sub.cons rfl (Sub.cons rfl (Sub.cons rfl (Sub.nil _)))))
  · exact fun w h => h
  rintro i ⟨hi, hpre⟩
  refine C.seq ?_
  refine C.region ?_
  refine J.bin rfl rfl rfl rfl rfl rfl (fun w => rfl) ?_
  refine J.nil ?_
  refine C.seq ?_
  refine C.cond rfl (fun h => ?_) (fun h => ?_)
  · have hlt : i < xss.length := by have := of_decide_eq_true h; omega
    obtain ⟨b, o, rfl, hb, hcell⟩ := h3 (by omega)
    obtain ⟨u, hu, hr⟩ := hcell i xss[i] (by simp)
    refine C.skip ?_
    refine C.seq ?_
    refine C.block ?_
    refine C.seq ?_
    refine C.region ?_
    refine J.move rfl rfl rfl rfl rfl ?_
    refine J.asg rfl rfl rfl rfl rfl ?_
    refine J.nil ?_
    refine C.seq ?_
    refine C.region ?_
    refine J.move rfl rfl rfl rfl rfl ?_
    refine J.move rfl rfl rfl rfl rfl ?_
    refine J.move rfl rfl rfl rfl rfl ?_
    first | refine J.idx1 rfl rfl rfl rfl rfl rfl Tryd.runUnderlying36 Tryd.sizeOf22 (by omega) ?_ | refine J.idx rfl rfl rfl rfl rfl rfl Tryd.runUnderlying36 Tryd.sizeOf22 (by omega) ?_
    refine J.ld rfl rfl rfl rfl rfl Tryd.isAgg22 (fun w h => cellOld h hu) ?_
    refine J.callf0 rfl rfl rfl rfl rfl rfl Tryd.call57 (fun w h => odd_calls w _ _ (h.ba hr)) ?_
    refine J.nil ?_
    refine C.cond rfl (fun h5 => ?_) (fun h5 => ?_)
    · refine C.seq ?_
      refine C.region ?_
      refine J.move rfl rfl rfl rfl rfl ?_
      refine J.asg rfl rfl rfl rfl rfl ?_
      refine J.nil ?_
      refine C.ret ?_
      exact fin1 rfl (RV.tmp rfl) (fun w' h => h.retV ⟨i, rfl, ⟨fun _ => List.any_eq_true.2 ⟨xss[i], List.getElem_mem _, h5⟩, fun _ => by omega⟩⟩)
    · refine C.skip ?_
      refine C.region ?_
      refine J.bin rfl rfl rfl rfl rfl rfl (fun w => ra_add (by omega)) ?_
      refine J.move rfl rfl rfl rfl rfl ?_
      refine J.nil ?_
      exact ⟨rfl, i + 1, ⟨hlt, any_take_snoc i hlt hpre h5⟩, by omega, (Sub.cons rfl (Sub.cons rfl (Sub.cons rfl (Sub.cons rfl (Sub.nil _))))), fun w h => h⟩
  · have hge : i = xss.length := by have := of_decide_eq_false h; omega
    subst hge
    rw [List.take_length] at hpre
    refine C.exit rfl ?_
    refine C.seq ?_
    refine C.region ?_
    refine J.asg rfl rfl rfl rfl rfl ?_
    refine J.nil ?_
    refine C.ret ?_
    exact fin1 rfl (RV.tmp rfl) (fun w' h => h.retV ⟨-1, rfl, ⟨fun h => absurd h (by omega), fun h => by rw [hpre] at h; cases h⟩⟩)
theorem containsS_calls (w : World) (v : Value) (xss : List (List UInt8)) (hx : BSA w v xss) : Calls Tryd.prog 59 #[v, fOdd] w (Ret0 w (.bool (xss.any oddS))) := by
  refine calls_of_C Tryd.func59 rfl Tryd.ntmps59 (Nat.le_of_ble_eq_true rfl) ?_
  refine C.less (L' := [(0, _), (1, _)]) ?_ (Sub.cons rfl (Sub.cons rfl (Sub.nil _))) (fun w h => h)
  refine C.seq ?_
  refine C.region ?_
  refine J.asg rfl rfl rfl rfl rfl ?_
  refine J.nil ?_
  refine C.seq ?_
  refine C.region ?_
  refine J.move rfl rfl rfl rfl rfl ?_
  refine J.move rfl rfl rfl rfl rfl ?_
  refine J.callv rfl rfl rfl rfl rfl Tryd.call76 (fun w h => indexS_calls w _ xss (h.bsa hx))  ?_
  rintro v7 ⟨i, rfl, hi⟩
  refine J.bin rfl rfl rfl rfl rfl rfl (fun w => rfl) ?_
  refine J.asg rfl rfl rfl rfl rfl ?_
  refine J.nil ?_
  refine C.ret ?_
  rw [show decide (i ≥ 0) = xss.any oddS by rw [Bool.eq_iff_iff, decide_eq_true_iff]; exact hi]
  exact fin1 rfl (RV.tmp rfl) (fun w' h => h.ret0)
end Go.Proofs.YtiminmnmeknioaaDoor

/- disk.Check: the search among writes. -/
set_option linter.unusedVariables false
namespace Go.Proofs.YtiminmnmeknioaaDoor
open Go Go.RowKit

def badW (n : Nat) (x : Wr) : Bool := decide (x.1 < 0) || decide (x.1 ≥ n) || oddS x.2
theorem bad_calls (w : World) (ba bo : Nat) (x : Wr) (dv cv : Value) (A : Option Addr) (n c : Nat) (h1 : w.heap[ba]? = some (.cells #[.slice A n c, cv] 39 (0, 0))) (h3 : w.heap[bo]? = some (.cells #[fOdd] 103 (0, 0))) (hx : BA w dv x.2) :
    Calls Tryd.prog 58 #[.agg #[vi x.1, dv], .pointer (some ⟨ba, 0, none⟩), .pointer (some ⟨bo, 0, none⟩)] w (Ret0 w (.bool (badW n x))) := by
  refine calls_of_C Tryd.func58 rfl Tryd.ntmps58 (Nat.le_of_ble_eq_true rfl) ?_
  refine C.less (L' := [(0, _), (1, _), (2, _)]) ?_ (Sub.cons rfl (Sub.cons rfl (Sub.cons rfl (Sub.nil _)))) (fun w h => h)
  refine C.seq ?_
  refine C.region ?_
  first | refine J.boxc rfl rfl rfl rfl rfl rfl (fun b3 => ?_) | refine J.box rfl rfl rfl rfl rfl (fun b3 => ?_)
  refine J.asg rfl rfl rfl rfl rfl ?_
  refine J.nil ?_
  refine C.seq ?_
  refine C.region ?_
  refine J.fld (k := 0) rfl rfl rfl rfl rfl Tryd.runUnderlying105 rfl rfl Tryd.sizeOf3 ?_
  refine J.ldo 0 rfl rfl rfl rfl rfl Tryd.isAgg3 rfl rfl ?_
  refine J.bin rfl rfl rfl rfl rfl rfl (fun w => rfl) ?_
  refine J.move rfl rfl rfl rfl rfl ?_
  rcases Decidable.em (x.1 < 0) with e1 | e1
  · have e : badW n x = true := by unfold badW; rw [dec_t e1]; rfl
    rw [e, dec_t e1]
    refine J.pass rfl rfl rfl rfl rfl (by intro h; cases h) ?_
    refine J.pass rfl rfl rfl rfl rfl (by intro h; cases h) ?_
    refine J.pass rfl rfl rfl rfl rfl (by intro h; cases h) ?_
    refine J.pass rfl rfl rfl rfl rfl (by intro h; cases h) ?_
    refine J.pass rfl rfl rfl rfl rfl (by intro h; cases h) ?_
    refine J.pass rfl rfl rfl rfl rfl (by intro h; cases h) ?_
    refine J.pick rfl rfl rfl rfl rfl rfl ?_
    refine J.move rfl rfl rfl rfl rfl ?_
    refine J.pass rfl rfl rfl rfl rfl (by intro h; cases h) ?_
    refine J.pass rfl rfl rfl rfl rfl (by intro h; cases h) ?_
    refine J.pass rfl rfl rfl rfl rfl (by intro h; cases h) ?_
    refine J.pass rfl rfl rfl rfl rfl (by intro h; cases h) ?_
    refine J.pick rfl rfl rfl rfl rfl rfl ?_
    refine J.asg rfl rfl rfl rfl rfl ?_
    refine J.nil ?_
    refine C.ret ?_
    exact fin1 rfl (RV.tmp rfl) (fun w' h => h.ret0)
  · rw [dec_f e1]
    refine J.want rfl rfl rfl rfl ?_
    refine J.fld (k := 0) rfl rfl rfl rfl rfl Tryd.runUnderlying105 rfl rfl Tryd.sizeOf3 ?_
    refine J.want rfl rfl rfl rfl ?_
    refine J.ldo 0 rfl rfl rfl rfl rfl Tryd.isAgg3 rfl rfl ?_
    refine J.want rfl rfl rfl rfl ?_
    refine J.fld (k := 0) rfl rfl rfl rfl rfl Tryd.runUnderlying39 rfl rfl Tryd.sizeOf36 ?_
    refine J.want rfl rfl rfl rfl ?_
    refine J.ld rfl rfl rfl rfl rfl Tryd.isAgg36 (fun w' h => by rw [World.cell?, h.below.block ba (heap_lt h1), h1]; rfl) ?_
    refine J.want rfl rfl rfl rfl ?_
    refine J.len rfl rfl rfl rfl rfl Tryd.runUnderlying36 ?_
    refine J.want rfl rfl rfl rfl ?_
    refine J.bin rfl rfl rfl rfl rfl rfl (fun w => rfl) ?_
    refine J.pick rfl rfl rfl rfl rfl rfl ?_
    refine J.move rfl rfl rfl rfl rfl ?_
    rcases Decidable.em (x.1 ≥ n) with e2 | e2
    · have e : badW n x = true := by unfold badW; rw [dec_t e2]; simp
      rw [e, dec_t e2]
      refine J.pass rfl rfl rfl rfl rfl (by intro h; cases h) ?_
      refine J.pass rfl rfl rfl rfl rfl (by intro h; cases h) ?_
      refine J.pass rfl rfl rfl rfl rfl (by intro h; cases h) ?_
      refine J.pass rfl rfl rfl rfl rfl (by intro h; cases h) ?_
      refine J.pick rfl rfl rfl rfl rfl rfl ?_
      refine J.asg rfl rfl rfl rfl rfl ?_
      refine J.nil ?_
      refine C.ret ?_
      exact fin1 rfl (RV.tmp rfl) (fun w' h => h.ret0)
    · have e : badW n x = oddS x.2 := by unfold badW; rw [dec_f e1, dec_f e2]; rfl
      rw [e, dec_f e2]
      refine J.want rfl rfl rfl rfl ?_
      refine J.ld rfl rfl rfl rfl rfl Tryd.isAgg103 (fun w' h => by rw [World.cell?, h.below.block bo (heap_lt h3), h3]; rfl) ?_
      refine J.want rfl rfl rfl rfl ?_
      refine J.fld (k := 1) rfl rfl rfl rfl rfl Tryd.runUnderlying105 rfl rfl Tryd.sizeOf22 ?_
      refine J.want rfl rfl rfl rfl ?_
      refine J.ldo 0 rfl rfl rfl rfl rfl Tryd.isAgg22 rfl rfl ?_
      refine J.want rfl rfl rfl rfl ?_
      refine J.callf0 rfl rfl rfl rfl rfl rfl Tryd.call57 (fun w h => odd_calls w _ _ (h.ba hx)) ?_
      refine J.pick rfl rfl rfl rfl rfl rfl ?_
      refine J.asg rfl rfl rfl rfl rfl ?_
      refine J.nil ?_
      refine C.ret ?_
      exact fin1 rfl (RV.tmp rfl) (fun w' h => h.ret0)
end Go.Proofs.YtiminmnmeknioaaDoor

/- disk.Check: the search among writes, whole. -/
set_option linter.unusedVariables false
namespace Go.Proofs.YtiminmnmeknioaaDoor
open Go Go.RowKit

abbrev fBad (ba bo : Nat) : Value := .func (.func 58) #[] #[.pointer (some ⟨ba, 0, none⟩), .pointer (some ⟨bo, 0, none⟩)]
theorem cells2 {w : World} {b o : Nat} {u v : Value} (h0 : w.cell? ⟨b, o, none⟩ = some u) (h1 : w.cell? ⟨b, o + 1, none⟩ = some v) (j : Nat) (x : Value) (hx : [u, v][j]? = some x) : w.cell? ((⟨b, o, none⟩ : Addr).add j) = some x := by
  rw [Addr.add_mid]
  match j, hx with
  | 0, hx => injection hx with hx; subst hx; exact h0
  | 1, hx => injection hx with hx; subst hx; exact h1
theorem indexW_calls (w : World) (v : Value) (xs : List Wr) (ba bo : Nat) (cv : Value) (As : Option Addr) (n cs : Nat) (hx : WSA w v xs) (k1 : w.heap[ba]? = some (.cells #[.slice As n cs, cv] 39 (0, 0))) (k3 : w.heap[bo]? = some (.cells #[fOdd] 103 (0, 0))) : Calls Tryd.prog 77 #[v, fBad ba bo] w (RetV w (fun z => ∃ i : Int, z = vi i ∧ (0 ≤ i ↔ xs.any (badW n) = true))) := by
  obtain ⟨A, c, rfl, h1, h2, h3⟩ := hx.form
  refine calls_of_C Tryd.func77 rfl Tryd.ntmps77 (Nat.le_of_ble_eq_true rfl) ?_
  refine C.less (L' := [(0, _), (1, _)]) ?_ (Sub.cons rfl (Sub.cons rfl (Sub.nil _))) (fun w h => h)
  refine C.seq ?_
  refine C.region ?_
  refine J.asg rfl rfl rfl rfl rfl ?_
  refine J.nil ?_
  refine C.seq ?_
  refine C.seq ?_
  refine C.region ?_
  refine J.move rfl rfl rfl rfl rfl ?_
  refine J.len rfl rfl rfl rfl rfl Tryd.runUnderlying37 ?_
  refine J.move rfl rfl rfl rfl rfl ?_
  refine J.nil ?_
  refine C.block ?_
  refine C.loop (fun i : Nat => i ≤ xs.length ∧ (xs.take i).any (badW n) = false) (fun i => [(0, .slice A xs.length c), (1, fBad ba bo), (7, vi (xs.length : Int)), (8, vi (i : Int))]) (fun i => []) (fun i => xs.length - i) 0 ⟨Nat.zero_le _, rfl⟩ ?_ ?_ ?_
  · exact (Sub.cons rfl (Sub.cons rfl (Sub.cons rfl (Sub.cons rfl (Sub.nil _)))))
  · exact fun w h => h
  rintro i ⟨hi, hpre⟩
  refine C.seq ?_
  refine C.region ?_
  refine J.bin rfl rfl rfl rfl rfl rfl (fun w => rfl) ?_
  refine J.nil ?_
  refine C.seq ?_
  refine C.cond rfl (fun h => ?_) (fun h => ?_)
  · have hlt : i < xs.length := by have := of_decide_eq_true h; omega
    obtain ⟨b, o, rfl, hb, hcell⟩ := h3 (by omega)
    obtain ⟨u, hu0, hu1, hr⟩ := hcell i xs[i] (by simp)
    refine C.skip ?_
    refine C.seq ?_
    refine C.block ?_
    refine C.seq ?_
    refine C.region ?_
    refine J.move rfl rfl rfl rfl rfl ?_
    refine J.asg rfl rfl rfl rfl rfl ?_
    refine J.nil ?_
    refine C.seq ?_
    refine C.region ?_
    refine J.move rfl rfl rfl rfl rfl ?_
    refine J.move rfl rfl rfl rfl rfl ?_
    refine J.move rfl rfl rfl rfl rfl ?_
    first | refine J.idxn rfl rfl rfl rfl rfl rfl Tryd.runUnderlying37 Tryd.sizeOf105 (by omega) ?_ | refine J.idx rfl rfl rfl rfl rfl rfl Tryd.runUnderlying37 Tryd.sizeOf105 (by omega) ?_
    refine J.ldn (cs := [_, _]) rfl rfl rfl rfl rfl Tryd.isAgg105 Tryd.sizeOf105 (fun w h => cells2 (cellOld h hu0) (cellOld h hu1)) ?_
    refine J.callf0 rfl rfl rfl rfl rfl rfl Tryd.call58 (fun w h => bad_calls w ba bo _ u cv As n cs ((h.below.block ba (heap_lt k1)).trans k1) ((h.below.block bo (heap_lt k3)).trans k3) (h.ba hr)) ?_
    refine J.nil ?_
    refine C.cond rfl (fun h5 => ?_) (fun h5 => ?_)
    · refine C.seq ?_
      refine C.region ?_
      refine J.move rfl rfl rfl rfl rfl ?_
      refine J.asg rfl rfl rfl rfl rfl ?_
      refine J.nil ?_
      refine C.ret ?_
      exact fin1 rfl (RV.tmp rfl) (fun w' h => h.retV ⟨i, rfl, ⟨fun _ => List.any_eq_true.2 ⟨xs[i], List.getElem_mem _, h5⟩, fun _ => by omega⟩⟩)
    · refine C.skip ?_
      refine C.region ?_
      refine J.bin rfl rfl rfl rfl rfl rfl (fun w => ra_add (by omega)) ?_
      refine J.move rfl rfl rfl rfl rfl ?_
      refine J.nil ?_
      exact ⟨rfl, i + 1, ⟨hlt, any_take_snoc i hlt hpre h5⟩, by omega, (Sub.cons rfl (Sub.cons rfl (Sub.cons rfl (Sub.cons rfl (Sub.nil _))))), fun w h => h⟩
  · have hge : i = xs.length := by have := of_decide_eq_false h; omega
    subst hge
    rw [List.take_length] at hpre
    refine C.exit rfl ?_
    refine C.seq ?_
    refine C.region ?_
    refine J.asg rfl rfl rfl rfl rfl ?_
    refine J.nil ?_
    refine C.ret ?_
    exact fin1 rfl (RV.tmp rfl) (fun w' h => h.retV ⟨-1, rfl, ⟨fun h => absurd h (by omega), fun h => by rw [hpre] at h; cases h⟩⟩)
theorem containsW_calls (w : World) (v : Value) (xs : List Wr) (ba bo : Nat) (cv : Value) (As : Option Addr) (n cs : Nat) (hx : WSA w v xs) (k1 : w.heap[ba]? = some (.cells #[.slice As n cs, cv] 39 (0, 0))) (k3 : w.heap[bo]? = some (.cells #[fOdd] 103 (0, 0))) : Calls Tryd.prog 60 #[v, fBad ba bo] w (Ret0 w (.bool (xs.any (badW n)))) := by
  refine calls_of_C Tryd.func60 rfl Tryd.ntmps60 (Nat.le_of_ble_eq_true rfl) ?_
  refine C.less (L' := [(0, _), (1, _)]) ?_ (Sub.cons rfl (Sub.cons rfl (Sub.nil _))) (fun w h => h)
  refine C.seq ?_
  refine C.region ?_
  refine J.asg rfl rfl rfl rfl rfl ?_
  refine J.nil ?_
  refine C.seq ?_
  refine C.region ?_
  refine J.move rfl rfl rfl rfl rfl ?_
  refine J.move rfl rfl rfl rfl rfl ?_
  refine J.callv rfl rfl rfl rfl rfl Tryd.call77 (fun w h => indexW_calls w _ xs ba bo cv As n cs (h.wsa hx) ((h.below.block ba (heap_lt k1)).trans k1) ((h.below.block bo (heap_lt k3)).trans k3))  ?_
  rintro v7 ⟨i, rfl, hi⟩
  refine J.bin rfl rfl rfl rfl rfl rfl (fun w => rfl) ?_
  refine J.asg rfl rfl rfl rfl rfl ?_
  refine J.nil ?_
  refine C.ret ?_
  rw [show decide (i ≥ 0) = xs.any (badW n) by rw [Bool.eq_iff_iff, decide_eq_true_iff]; exact hi]
  exact fin1 rfl (RV.tmp rfl) (fun w' h => h.ret0)
end Go.Proofs.YtiminmnmeknioaaDoor

/- disk.Check. -/
set_option linter.unusedVariables false
namespace Go.Proofs.YtiminmnmeknioaaDoor
open Go Go.RowKit

def dkBad (d : Dk) : Bool := decide (d.secs.length < 1) || decide (d.secs.length > 2048) || decide (d.cache.length > 4096) || d.secs.any oddS || d.cache.any (badW d.secs.length)
def dkErr (d : Dk) : Int := if dkBad d then 9 else 0
theorem Check_dk_calls (w : World) (d : Dk) (sv cv : Value) (hs : BSA w sv d.secs) (hc : WSA w cv d.cache) : Calls Tryd.prog 38 #[.agg #[sv, cv]] w (Ret0 w (vi (dkErr d))) := by
  have hs0 := hs
  have hc0 := hc
  obtain ⟨A, c, rfl, h1, h2, h3⟩ := hs.form
  obtain ⟨A2, c2, rfl, k1, k2, k3⟩ := hc.form
  refine calls_of_C Tryd.func38 rfl Tryd.ntmps38 (Nat.le_of_ble_eq_true rfl) ?_
  refine C.less (L' := [(0, _)]) ?_ (Sub.cons rfl (Sub.nil _)) (fun w h => h)
  refine C.seq ?_
  refine C.region ?_
  first | refine J.boxc rfl rfl rfl rfl rfl rfl (fun b1 => ?_) | refine J.box rfl rfl rfl rfl rfl (fun b1 => ?_)
  refine J.asg rfl rfl rfl rfl rfl ?_
  refine J.nil ?_
  refine C.seq ?_
  refine C.region ?_
  refine J.allocc rfl rfl rfl rfl Tryd.zeroValue103 rfl (fun b3 => ?_)
  first | refine J.stwc 0 rfl rfl rfl rfl rfl rfl Tryd.sizeOf103 (by first | rfl | assumption | simp [Value.cells, Value.oneCell']) rfl rfl ?_ | refine J.stw 0 rfl rfl rfl rfl rfl rfl Tryd.sizeOf103 (by first | rfl | assumption | simp [Value.cells, Value.oneCell']) rfl rfl ?_
  refine J.nil ?_
  refine C.seq ?_
  refine C.region ?_
  refine J.mkfn2 rfl rfl rfl rfl rfl rfl ?_
  refine J.asg rfl rfl rfl rfl rfl ?_
  refine J.nil ?_
  refine C.seq ?_
  refine C.seq ?_
  refine C.region ?_
  refine J.fld (k := 0) rfl rfl rfl rfl rfl Tryd.runUnderlying39 rfl rfl Tryd.sizeOf36 ?_
  refine J.ldo 1 rfl rfl rfl rfl rfl Tryd.isAgg36 rfl rfl ?_
  refine J.len rfl rfl rfl rfl rfl Tryd.runUnderlying36 ?_
  refine J.bin rfl rfl rfl rfl rfl rfl (fun w => rfl) ?_
  refine J.move rfl rfl rfl rfl rfl ?_
  rcases Decidable.em ((d.secs.length : Int) < 1) with e1 | e1
  · have e : dkErr d = 9 := by unfold dkErr dkBad; rw [dec_t (show d.secs.length < 1 by omega)]; simp
    rw [e, dec_t e1]
    refine J.pass rfl rfl rfl rfl rfl (by intro h; cases h) ?_
    refine J.pass rfl rfl rfl rfl rfl (by intro h; cases h) ?_
    refine J.pass rfl rfl rfl rfl rfl (by intro h; cases h) ?_
    refine J.pass rfl rfl rfl rfl rfl (by intro h; cases h) ?_
    refine J.pick rfl rfl rfl rfl rfl rfl ?_
    refine J.move rfl rfl rfl rfl rfl ?_
    refine J.pass rfl rfl rfl rfl rfl (by intro h; cases h) ?_
    refine J.pass rfl rfl rfl rfl rfl (by intro h; cases h) ?_
    refine J.pass rfl rfl rfl rfl rfl (by intro h; cases h) ?_
    refine J.pass rfl rfl rfl rfl rfl (by intro h; cases h) ?_
    refine J.pick rfl rfl rfl rfl rfl rfl ?_
    refine J.move rfl rfl rfl rfl rfl ?_
    refine J.pass rfl rfl rfl rfl rfl (by intro h; cases h) ?_
    refine J.pass rfl rfl rfl rfl rfl (by intro h; cases h) ?_
    refine J.pass rfl rfl rfl rfl rfl (by intro h; cases h) ?_
    refine J.pass rfl rfl rfl rfl rfl (by intro h; cases h) ?_
    refine J.pick rfl rfl rfl rfl rfl rfl ?_
    refine J.move rfl rfl rfl rfl rfl ?_
    refine J.pass rfl rfl rfl rfl rfl (by intro h; cases h) ?_
    refine J.pass rfl rfl rfl rfl rfl (by intro h; cases h) ?_
    refine J.pass rfl rfl rfl rfl rfl (by intro h; cases h) ?_
    refine J.pass rfl rfl rfl rfl rfl (by intro h; cases h) ?_
    refine J.pick rfl rfl rfl rfl rfl rfl ?_
    refine J.nil ?_
    refine C.cond_t rfl ?_
    refine C.seq ?_
    refine C.region ?_
    refine J.asg rfl rfl rfl rfl rfl ?_
    refine J.nil ?_
    refine C.ret ?_
    exact fin1 rfl (RV.tmp rfl) (fun w' h => h.ret0)
  · rw [dec_f e1]
    refine J.want rfl rfl rfl rfl ?_
    refine J.fld (k := 0) rfl rfl rfl rfl rfl Tryd.runUnderlying39 rfl rfl Tryd.sizeOf36 ?_
    refine J.want rfl rfl rfl rfl ?_
    refine J.ldo 1 rfl rfl rfl rfl rfl Tryd.isAgg36 rfl rfl ?_
    refine J.want rfl rfl rfl rfl ?_
    refine J.len rfl rfl rfl rfl rfl Tryd.runUnderlying36 ?_
    refine J.want rfl rfl rfl rfl ?_
    refine J.bin rfl rfl rfl rfl rfl rfl (fun w => rfl) ?_
    refine J.pick rfl rfl rfl rfl rfl rfl ?_
    refine J.move rfl rfl rfl rfl rfl ?_
    rcases Decidable.em ((d.secs.length : Int) > 2048) with e2 | e2
    · have e : dkErr d = 9 := by unfold dkErr dkBad; rw [dec_t (show d.secs.length > 2048 by omega)]; simp
      rw [e, dec_t e2]
      refine J.pass rfl rfl rfl rfl rfl (by intro h; cases h) ?_
      refine J.pass rfl rfl rfl rfl rfl (by intro h; cases h) ?_
      refine J.pass rfl rfl rfl rfl rfl (by intro h; cases h) ?_
      refine J.pass rfl rfl rfl rfl rfl (by intro h; cases h) ?_
      refine J.pick rfl rfl rfl rfl rfl rfl ?_
      refine J.move rfl rfl rfl rfl rfl ?_
      refine J.pass rfl rfl rfl rfl rfl (by intro h; cases h) ?_
      refine J.pass rfl rfl rfl rfl rfl (by intro h; cases h) ?_
      refine J.pass rfl rfl rfl rfl rfl (by intro h; cases h) ?_
      refine J.pass rfl rfl rfl rfl rfl (by intro h; cases h) ?_
      refine J.pick rfl rfl rfl rfl rfl rfl ?_
      refine J.move rfl rfl rfl rfl rfl ?_
      refine J.pass rfl rfl rfl rfl rfl (by intro h; cases h) ?_
      refine J.pass rfl rfl rfl rfl rfl (by intro h; cases h) ?_
      refine J.pass rfl rfl rfl rfl rfl (by intro h; cases h) ?_
      refine J.pass rfl rfl rfl rfl rfl (by intro h; cases h) ?_
      refine J.pick rfl rfl rfl rfl rfl rfl ?_
      refine J.nil ?_
      refine C.cond_t rfl ?_
      refine C.seq ?_
      refine C.region ?_
      refine J.asg rfl rfl rfl rfl rfl ?_
      refine J.nil ?_
      refine C.ret ?_
      exact fin1 rfl (RV.tmp rfl) (fun w' h => h.ret0)
    · rw [dec_f e2]
      refine J.want rfl rfl rfl rfl ?_
      refine J.fld (k := 1) rfl rfl rfl rfl rfl Tryd.runUnderlying39 rfl rfl Tryd.sizeOf37 ?_
      refine J.want rfl rfl rfl rfl ?_
      refine J.ldo 1 rfl rfl rfl rfl rfl Tryd.isAgg37 rfl rfl ?_
      refine J.want rfl rfl rfl rfl ?_
      refine J.len rfl rfl rfl rfl rfl Tryd.runUnderlying37 ?_
      refine J.want rfl rfl rfl rfl ?_
      refine J.bin rfl rfl rfl rfl rfl rfl (fun w => rfl) ?_
      refine J.pick rfl rfl rfl rfl rfl rfl ?_
      refine J.move rfl rfl rfl rfl rfl ?_
      rcases Decidable.em ((d.cache.length : Int) > 4096) with e3 | e3
      · have e : dkErr d = 9 := by unfold dkErr dkBad; rw [dec_t (show d.cache.length > 4096 by omega)]; simp
        rw [e, dec_t e3]
        refine J.pass rfl rfl rfl rfl rfl (by intro h; cases h) ?_
        refine J.pass rfl rfl rfl rfl rfl (by intro h; cases h) ?_
        refine J.pass rfl rfl rfl rfl rfl (by intro h; cases h) ?_
        refine J.pass rfl rfl rfl rfl rfl (by intro h; cases h) ?_
        refine J.pick rfl rfl rfl rfl rfl rfl ?_
        refine J.move rfl rfl rfl rfl rfl ?_
        refine J.pass rfl rfl rfl rfl rfl (by intro h; cases h) ?_
        refine J.pass rfl rfl rfl rfl rfl (by intro h; cases h) ?_
        refine J.pass rfl rfl rfl rfl rfl (by intro h; cases h) ?_
        refine J.pass rfl rfl rfl rfl rfl (by intro h; cases h) ?_
        refine J.pick rfl rfl rfl rfl rfl rfl ?_
        refine J.nil ?_
        refine C.cond_t rfl ?_
        refine C.seq ?_
        refine C.region ?_
        refine J.asg rfl rfl rfl rfl rfl ?_
        refine J.nil ?_
        refine C.ret ?_
        exact fin1 rfl (RV.tmp rfl) (fun w' h => h.ret0)
      · rw [dec_f e3]
        refine J.want rfl rfl rfl rfl ?_
        refine J.fld (k := 0) rfl rfl rfl rfl rfl Tryd.runUnderlying39 rfl rfl Tryd.sizeOf36 ?_
        refine J.want rfl rfl rfl rfl ?_
        refine J.ldo 1 rfl rfl rfl rfl rfl Tryd.isAgg36 rfl rfl ?_
        refine J.want rfl rfl rfl rfl ?_
        refine J.ldo 0 rfl rfl rfl rfl rfl Tryd.isAgg103 rfl rfl ?_
        refine J.want rfl rfl rfl rfl ?_
        refine J.call0 rfl rfl rfl rfl rfl Tryd.call59 (fun w h => containsS_calls w _ d.secs (h.bsa hs0)) ?_
        refine J.pick rfl rfl rfl rfl rfl rfl ?_
        refine J.move rfl rfl rfl rfl rfl ?_
        rcases Bool.eq_false_or_eq_true (d.secs.any oddS) with e4 | e4
        · have e : dkErr d = 9 := by unfold dkErr dkBad; rw [e4]; simp
          rw [e, e4]
          refine J.pass rfl rfl rfl rfl rfl (by intro h; cases h) ?_
          refine J.pass rfl rfl rfl rfl rfl (by intro h; cases h) ?_
          refine J.pass rfl rfl rfl rfl rfl (by intro h; cases h) ?_
          refine J.pass rfl rfl rfl rfl rfl (by intro h; cases h) ?_
          refine J.pick rfl rfl rfl rfl rfl rfl ?_
          refine J.nil ?_
          refine C.cond_t rfl ?_
          refine C.seq ?_
          refine C.region ?_
          refine J.asg rfl rfl rfl rfl rfl ?_
          refine J.nil ?_
          refine C.ret ?_
          exact fin1 rfl (RV.tmp rfl) (fun w' h => h.ret0)
        · rw [e4]
          refine J.want rfl rfl rfl rfl ?_
          refine J.fld (k := 1) rfl rfl rfl rfl rfl Tryd.runUnderlying39 rfl rfl Tryd.sizeOf37 ?_
          refine J.want rfl rfl rfl rfl ?_
          refine J.ldo 1 rfl rfl rfl rfl rfl Tryd.isAgg37 rfl rfl ?_
          refine J.want rfl rfl rfl rfl ?_
          refine J.move rfl rfl rfl rfl rfl ?_
          refine J.want rfl rfl rfl rfl ?_
          refine J.call0 rfl rfl rfl rfl rfl Tryd.call60 (fun w h => containsW_calls w _ d.cache b1 b3 _ A d.secs.length c (h.wsa hc0) (h.get 1 rfl) (h.get 0 rfl)) ?_
          refine J.pick rfl rfl rfl rfl rfl rfl ?_
          refine J.nil ?_
          have e : dkErr d = if d.cache.any (badW d.secs.length) then 9 else 0 := by unfold dkErr dkBad; rw [dec_f (show ¬ d.secs.length < 1 by omega), dec_f (show ¬ d.secs.length > 2048 by omega), dec_f (show ¬ d.cache.length > 4096 by omega), e4]; rfl
          refine C.cond rfl (fun h5 => ?_) (fun h5 => ?_)
          · rw [e, if_pos h5]
            refine C.seq ?_
            refine C.region ?_
            refine J.asg rfl rfl rfl rfl rfl ?_
            refine J.nil ?_
            refine C.ret ?_
            exact fin1 rfl (RV.tmp rfl) (fun w' h => h.ret0)
          · rw [e, if_neg (by rw [h5]; simp)]
            refine C.skip ?_
            refine C.seq ?_
            refine C.region ?_
            refine J.asg rfl rfl rfl rfl rfl ?_
            refine J.nil ?_
            refine C.ret ?_
            exact fin1 rfl (RV.tmp rfl) (fun w' h => h.ret0)
end Go.Proofs.YtiminmnmeknioaaDoor

/- room. -/
set_option linter.unusedVariables false
namespace Go.Proofs.YtiminmnmeknioaaDoor
open Go Go.RowKit

def roomOk (len : Nat) (s n : Int) : Bool := decide (0 ≤ s ∧ 0 ≤ n ∧ s ≤ len ∧ n ≤ len - s)
theorem room_calls (w : World) (A : Option Addr) (len c : Nat) (cv : Value) (s n : Int) (hl : len ≤ 9223372036854775807) : Calls Tryd.prog 39 #[.agg #[.slice A len c, cv], vi s, vi n] w (Ret0 w (.bool (roomOk len s n))) := by
  refine calls_of_C Tryd.func39 rfl Tryd.ntmps39 (Nat.le_of_ble_eq_true rfl) ?_
  refine C.less (L' := [(0, _), (1, _), (2, _)]) ?_ (Sub.cons rfl (Sub.cons rfl (Sub.cons rfl (Sub.nil _)))) (fun w h => h)
  refine C.seq ?_
  refine C.region ?_
  first | refine J.boxc rfl rfl rfl rfl rfl rfl (fun b3 => ?_) | refine J.box rfl rfl rfl rfl rfl (fun b3 => ?_)
  refine J.asg rfl rfl rfl rfl rfl ?_
  refine J.nil ?_
  refine C.seq ?_
  refine C.region ?_
  refine J.move rfl rfl rfl rfl rfl ?_
  refine J.bin rfl rfl rfl rfl rfl rfl (fun w => rfl) ?_
  refine J.move rfl rfl rfl rfl rfl ?_
  rcases Decidable.em (s ≥ 0) with e1 | e1
  · rw [dec_t e1]
    refine J.want rfl rfl rfl rfl ?_
    refine J.move rfl rfl rfl rfl rfl ?_
    refine J.want rfl rfl rfl rfl ?_
    refine J.bin rfl rfl rfl rfl rfl rfl (fun w => rfl) ?_
    refine J.pick rfl rfl rfl rfl rfl rfl ?_
    refine J.move rfl rfl rfl rfl rfl ?_
    rcases Decidable.em (n ≥ 0) with e2 | e2
    · rw [dec_t e2]
      refine J.want rfl rfl rfl rfl ?_
      refine J.move rfl rfl rfl rfl rfl ?_
      refine J.want rfl rfl rfl rfl ?_
      refine J.fld (k := 0) rfl rfl rfl rfl rfl Tryd.runUnderlying39 rfl rfl Tryd.sizeOf36 ?_
      refine J.want rfl rfl rfl rfl ?_
      refine J.ldo 0 rfl rfl rfl rfl rfl Tryd.isAgg36 rfl rfl ?_
      refine J.want rfl rfl rfl rfl ?_
      refine J.len rfl rfl rfl rfl rfl Tryd.runUnderlying36 ?_
      refine J.want rfl rfl rfl rfl ?_
      refine J.bin rfl rfl rfl rfl rfl rfl (fun w => rfl) ?_
      refine J.pick rfl rfl rfl rfl rfl rfl ?_
      refine J.move rfl rfl rfl rfl rfl ?_
      rcases Decidable.em (s ≤ len) with e3 | e3
      · rw [dec_t e3]
        refine J.want rfl rfl rfl rfl ?_
        refine J.move rfl rfl rfl rfl rfl ?_
        refine J.want rfl rfl rfl rfl ?_
        refine J.fld (k := 0) rfl rfl rfl rfl rfl Tryd.runUnderlying39 rfl rfl Tryd.sizeOf36 ?_
        refine J.want rfl rfl rfl rfl ?_
        refine J.ldo 0 rfl rfl rfl rfl rfl Tryd.isAgg36 rfl rfl ?_
        refine J.want rfl rfl rfl rfl ?_
        refine J.len rfl rfl rfl rfl rfl Tryd.runUnderlying36 ?_
        refine J.want rfl rfl rfl rfl ?_
        refine J.move rfl rfl rfl rfl rfl ?_
        refine J.want rfl rfl rfl rfl ?_
        refine J.bin rfl rfl rfl rfl rfl rfl (fun w => ra_sub (by omega)) ?_
        refine J.want rfl rfl rfl rfl ?_
        refine J.bin rfl rfl rfl rfl rfl rfl (fun w => rfl) ?_
        refine J.pick rfl rfl rfl rfl rfl rfl ?_
        refine J.asg rfl rfl rfl rfl rfl ?_
        refine J.nil ?_
        refine C.ret ?_
        rw [show decide (n ≤ (len : Int) - s) = roomOk len s n by unfold roomOk; congr 1; simp; omega]
        exact fin1 rfl (RV.tmp rfl) (fun w' h => h.ret0)
      · rw [dec_f e3, show roomOk len s n = false by unfold roomOk; exact decide_eq_false (by omega)]
        refine J.pass rfl rfl rfl rfl rfl (by intro h; cases h) ?_
        refine J.pass rfl rfl rfl rfl rfl (by intro h; cases h) ?_
        refine J.pass rfl rfl rfl rfl rfl (by intro h; cases h) ?_
        refine J.pass rfl rfl rfl rfl rfl (by intro h; cases h) ?_
        refine J.pass rfl rfl rfl rfl rfl (by intro h; cases h) ?_
        refine J.pass rfl rfl rfl rfl rfl (by intro h; cases h) ?_
        refine J.pass rfl rfl rfl rfl rfl (by intro h; cases h) ?_
        refine J.pick rfl rfl rfl rfl rfl rfl ?_
        refine J.asg rfl rfl rfl rfl rfl ?_
        refine J.nil ?_
        refine C.ret ?_
        exact fin1 rfl (RV.tmp rfl) (fun w' h => h.ret0)
    · rw [dec_f e2, show roomOk len s n = false by unfold roomOk; exact decide_eq_false (by omega)]
      refine J.pass rfl rfl rfl rfl rfl (by intro h; cases h) ?_
      refine J.pass rfl rfl rfl rfl rfl (by intro h; cases h) ?_
      refine J.pass rfl rfl rfl rfl rfl (by intro h; cases h) ?_
      refine J.pass rfl rfl rfl rfl rfl (by intro h; cases h) ?_
      refine J.pass rfl rfl rfl rfl rfl (by intro h; cases h) ?_
      refine J.pick rfl rfl rfl rfl rfl rfl ?_
      refine J.move rfl rfl rfl rfl rfl ?_
      refine J.pass rfl rfl rfl rfl rfl (by intro h; cases h) ?_
      refine J.pass rfl rfl rfl rfl rfl (by intro h; cases h) ?_
      refine J.pass rfl rfl rfl rfl rfl (by intro h; cases h) ?_
      refine J.pass rfl rfl rfl rfl rfl (by intro h; cases h) ?_
      refine J.pass rfl rfl rfl rfl rfl (by intro h; cases h) ?_
      refine J.pass rfl rfl rfl rfl rfl (by intro h; cases h) ?_
      refine J.pass rfl rfl rfl rfl rfl (by intro h; cases h) ?_
      refine J.pick rfl rfl rfl rfl rfl rfl ?_
      refine J.asg rfl rfl rfl rfl rfl ?_
      refine J.nil ?_
      refine C.ret ?_
      exact fin1 rfl (RV.tmp rfl) (fun w' h => h.ret0)
  · rw [dec_f e1, show roomOk len s n = false by unfold roomOk; exact decide_eq_false (by omega)]
    refine J.pass rfl rfl rfl rfl rfl (by intro h; cases h) ?_
    refine J.pass rfl rfl rfl rfl rfl (by intro h; cases h) ?_
    refine J.pick rfl rfl rfl rfl rfl rfl ?_
    refine J.move rfl rfl rfl rfl rfl ?_
    refine J.pass rfl rfl rfl rfl rfl (by intro h; cases h) ?_
    refine J.pass rfl rfl rfl rfl rfl (by intro h; cases h) ?_
    refine J.pass rfl rfl rfl rfl rfl (by intro h; cases h) ?_
    refine J.pass rfl rfl rfl rfl rfl (by intro h; cases h) ?_
    refine J.pass rfl rfl rfl rfl rfl (by intro h; cases h) ?_
    refine J.pick rfl rfl rfl rfl rfl rfl ?_
    refine J.move rfl rfl rfl rfl rfl ?_
    refine J.pass rfl rfl rfl rfl rfl (by intro h; cases h) ?_
    refine J.pass rfl rfl rfl rfl rfl (by intro h; cases h) ?_
    refine J.pass rfl rfl rfl rfl rfl (by intro h; cases h) ?_
    refine J.pass rfl rfl rfl rfl rfl (by intro h; cases h) ?_
    refine J.pass rfl rfl rfl rfl rfl (by intro h; cases h) ?_
    refine J.pass rfl rfl rfl rfl rfl (by intro h; cases h) ?_
    refine J.pass rfl rfl rfl rfl rfl (by intro h; cases h) ?_
    refine J.pick rfl rfl rfl rfl rfl rfl ?_
    refine J.asg rfl rfl rfl rfl rfl ?_
    refine J.nil ?_
    refine C.ret ?_
    exact fin1 rfl (RV.tmp rfl) (fun w' h => h.ret0)
end Go.Proofs.YtiminmnmeknioaaDoor

/- Copies of rows of slices. -/
set_option linter.unusedVariables false
namespace Go.Proofs.YtiminmnmeknioaaDoor
open Go Go.RowKit

/-- The slices that a slice of slices holds. -/
theorem RBS.vals {fp : Nat → Prop} {w : World} {v : Value} {xss : List (List UInt8)} (h : RBS fp w v xss) : ∃ (A : Option Addr) (c : Nat) (vs : List Value), v = .slice A xss.length c ∧ xss.length ≤ c ∧ c ≤ 9223372036854775807 ∧ vs.length = xss.length ∧ (∀ (j : Nat) u x, vs[j]? = some u → xss[j]? = some x → RB fp w u x) ∧ (0 < xss.length → ∃ b o, A = some ⟨b, o, none⟩ ∧ fp b ∧ ∀ j u, vs[j]? = some u → w.cell? ⟨b, o + j, none⟩ = some u) := by
  obtain ⟨A, c, rfl, h1, h2, h3⟩ := h.form
  rcases Nat.eq_zero_or_pos xss.length with h0 | h0
  · exact ⟨A, c, [], rfl, h1, h2, by simp [h0], fun j u x hu => by simp at hu, fun h => by omega⟩
  · obtain ⟨b, o, rfl, hb, hc⟩ := h3 h0
    refine ⟨_, c, (List.range xss.length).map (fun j => (w.cell? ⟨b, o + j, none⟩).getD .nilIface), rfl, h1, h2, by simp, fun j u x hu hx => ?_, fun _ => ⟨b, o, rfl, hb, fun j u hu => ?_⟩⟩
    · obtain ⟨u', hu', hr⟩ := hc j x hx
      have hj : j < xss.length := (List.getElem?_eq_some_iff.1 hx).1
      rw [List.getElem?_map, List.getElem?_range hj] at hu
      simp only [Option.map_some, hu', Option.getD_some, Option.some.injEq] at hu
      subst hu
      exact hr
    · have hj : j < xss.length := by have := (List.getElem?_eq_some_iff.1 hu).1; simpa using this
      obtain ⟨u', hu', hr⟩ := hc j xss[j] (by simp)
      rw [List.getElem?_map, List.getElem?_range hj] at hu
      simp only [Option.map_some, hu', Option.getD_some, Option.some.injEq] at hu
      subst hu
      exact hu'
end Go.Proofs.YtiminmnmeknioaaDoor

/- bytes.Clone as a row. -/
set_option linter.unusedVariables false
namespace Go.Proofs.YtiminmnmeknioaaDoor
open Go Go.RowKit

theorem CloneRow_calls (w : World) (v : Value) (xs : List UInt8) (hx : BA w v xs) (hs : xs.length ≤ 140737488355328) : Calls Tryd.prog 48 #[v] w (Ret w (fun u r => r = rowR 5 1 u xs.length (xs.map vu8))) := by
  obtain ⟨A, c, rfl, h1, h2, h3⟩ := hx.form
  refine calls_of_C Tryd.func48 rfl Tryd.ntmps48 (Nat.le_of_ble_eq_true rfl) ?_
  refine C.less (L' := [(0, _)]) ?_ (Sub.cons rfl (Sub.nil _)) (fun w h => h)
  refine C.seq ?_
  refine C.region ?_
  refine J.asg rfl rfl rfl rfl rfl ?_
  refine J.nil ?_
  refine C.seq ?_
  refine C.seq ?_
  refine C.region ?_
  refine J.move rfl rfl rfl rfl rfl ?_
  refine J.binAny rfl rfl rfl rfl rfl rfl (fun w => slice_eql_nil Tryd.underlying22 _ _ _) ?_
  refine J.nil ?_
  refine C.cond rfl (fun h => ?_) (fun h => ?_)
  · have hA : A = none := by simpa using h
    obtain rfl : xs = [] := by
      rcases Nat.eq_zero_or_pos xs.length with h0 | h0
      · exact List.eq_nil_of_length_eq_zero h0
      · obtain ⟨b, o, e, _⟩ := h3 h0
        rw [hA] at e; cases e
    refine C.seq ?_
    refine C.region ?_
    refine J.asg rfl rfl rfl rfl rfl ?_
    refine J.nil ?_
    refine C.ret ?_
    exact fin1 rfl (RV.tmp rfl) (fun w' h => (h.nilRow 5 1).ret 0 rfl rfl)
  · refine C.skip ?_
    refine C.seq ?_
    refine C.region ?_
    refine J.blds (vs := []) (cells := []) rfl rfl rfl rfl rfl Tryd.zeroValue5 Tryd.runUnderlying22 Tryd.sizeOf5 rfl rfl rfl rfl (fun b5 => ?_)
    refine J.move rfl rfl rfl rfl rfl ?_
    refine J.less (M' := [rowR 5 1 _ 0 []]) ?_ (Sub.refl _) (fun w h => blk_row h (by omega) rfl)
    refine J.app 0 rfl rfl rfl rfl rfl rfl Tryd.underlying22 inf5 rfl rfl rfl rfl (news := xs.map vu8) (by simp) (fun w h hn => srcB (h.ba hx) hn) (all_u8 xs) (by omega) (fun v7 => ?_)
    refine J.asg rfl rfl rfl rfl rfl ?_
    refine J.nil ?_
    refine C.ret ?_
    exact fin1 rfl (RV.tmp rfl) (fun w' h => h.ret 0 rfl (by simp))
end Go.Proofs.YtiminmnmeknioaaDoor

/- slices.Clone of slices of octets. -/
set_option linter.unusedVariables false
namespace Go.Proofs.YtiminmnmeknioaaDoor
open Go Go.RowKit

theorem CloneS_calls (w : World) (A : Option Addr) (n c : Nat) (vs : List Value) (hl : vs.length = n) (h1 : n ≤ 1000000000000) (hone : vs.all (·.oneCell') = true) (hnn : A = none → n = 0) (hx : 0 < n → ∃ b o, A = some ⟨b, o, none⟩ ∧ Old w b ∧ ∀ j u, vs[j]? = some u → w.cell? ⟨b, o + j, none⟩ = some u) : Calls Tryd.prog 78 #[.slice A n c] w (Ret w (fun u r => r = rowR 22 1 u n vs)) := by
  refine calls_of_C Tryd.func78 rfl Tryd.ntmps78 (Nat.le_of_ble_eq_true rfl) ?_
  refine C.less (L' := [(0, _)]) ?_ (Sub.cons rfl (Sub.nil _)) (fun w h => h)
  refine C.seq ?_
  refine C.region ?_
  refine J.asg rfl rfl rfl rfl rfl ?_
  refine J.nil ?_
  refine C.seq ?_
  refine C.seq ?_
  refine C.region ?_
  refine J.move rfl rfl rfl rfl rfl ?_
  refine J.binAny rfl rfl rfl rfl rfl rfl (fun w => slice_eql_nil Tryd.underlying36 _ _ _) ?_
  refine J.nil ?_
  refine C.cond rfl (fun h => ?_) (fun h => ?_)
  · have hA : A = none := by simpa using h
    obtain rfl := hnn hA
    obtain rfl : vs = [] := List.eq_nil_of_length_eq_zero hl
    refine C.seq ?_
    refine C.region ?_
    refine J.asg rfl rfl rfl rfl rfl ?_
    refine J.nil ?_
    refine C.ret ?_
    exact fin1 rfl (RV.tmp rfl) (fun w' h => (h.nilRow 22 1).ret 0 rfl rfl)
  · refine C.skip ?_
    refine C.seq ?_
    refine C.region ?_
    refine J.blds (vs := []) (cells := []) rfl rfl rfl rfl rfl Tryd.zeroValue22 Tryd.runUnderlying36 Tryd.sizeOf22 rfl rfl rfl rfl (fun b5 => ?_)
    refine J.move rfl rfl rfl rfl rfl ?_
    refine J.less (M' := [rowR 22 1 _ 0 []]) ?_ (Sub.refl _) (fun w h => blk_row h (by omega) rfl)
    have hsrc : ∀ (M : List Res) w', St No w M w' → 0 < n → ∃ a, A = some a ∧ ∀ j u, vs[j]? = some u → w'.cell? (a.add j) = some u := fun M w' hst hn => by
      obtain ⟨b, o, rfl, hb, hc⟩ := hx hn
      exact ⟨_, rfl, fun j u hu => by rw [Addr.add_mid]; exact cellOld hst (hc j u hu)⟩
    refine J.app 0 rfl rfl rfl rfl rfl rfl Tryd.underlying36 inf22 rfl rfl rfl rfl (news := vs) (by omega) (fun w' h hn => hsrc _ w' h hn) hone (by omega) (fun v7 => ?_)
    refine J.asg rfl rfl rfl rfl rfl ?_
    refine J.nil ?_
    refine C.ret ?_
    exact fin1 rfl (RV.tmp rfl) (fun w' h => h.ret 0 rfl (by simp))
end Go.Proofs.YtiminmnmeknioaaDoor

/- slices.Clone of writes. -/
set_option linter.unusedVariables false
namespace Go.Proofs.YtiminmnmeknioaaDoor
open Go Go.RowKit

theorem CloneW_calls (w : World) (A : Option Addr) (n c : Nat) (vs : List Value) (hl : vs.length = n * 2) (h1 : n ≤ 1000000000000) (hone : vs.all (·.oneCell') = true) (hnn : A = none → n = 0) (hx : 0 < n → ∃ b o, A = some ⟨b, o, none⟩ ∧ Old w b ∧ ∀ j u, vs[j]? = some u → w.cell? ⟨b, o + j, none⟩ = some u) : Calls Tryd.prog 79 #[.slice A n c] w (Ret w (fun u r => r = rowR 105 2 u n vs)) := by
  refine calls_of_C Tryd.func79 rfl Tryd.ntmps79 (Nat.le_of_ble_eq_true rfl) ?_
  refine C.less (L' := [(0, _)]) ?_ (Sub.cons rfl (Sub.nil _)) (fun w h => h)
  refine C.seq ?_
  refine C.region ?_
  refine J.asg rfl rfl rfl rfl rfl ?_
  refine J.nil ?_
  refine C.seq ?_
  refine C.seq ?_
  refine C.region ?_
  refine J.move rfl rfl rfl rfl rfl ?_
  refine J.binAny rfl rfl rfl rfl rfl rfl (fun w => slice_eql_nil Tryd.underlying37 _ _ _) ?_
  refine J.nil ?_
  refine C.cond rfl (fun h => ?_) (fun h => ?_)
  · have hA : A = none := by simpa using h
    obtain rfl := hnn hA
    obtain rfl : vs = [] := List.eq_nil_of_length_eq_zero (by simpa using hl)
    refine C.seq ?_
    refine C.region ?_
    refine J.asg rfl rfl rfl rfl rfl ?_
    refine J.nil ?_
    refine C.ret ?_
    exact fin1 rfl (RV.tmp rfl) (fun w' h => (h.nilRow 105 2).ret 0 rfl rfl)
  · refine C.skip ?_
    refine C.seq ?_
    refine C.region ?_
    refine J.blds (vs := []) (cells := []) rfl rfl rfl rfl rfl Tryd.zeroValue105 Tryd.runUnderlying37 Tryd.sizeOf105 rfl rfl rfl rfl (fun b5 => ?_)
    refine J.move rfl rfl rfl rfl rfl ?_
    refine J.less (M' := [rowR 105 2 _ 0 []]) ?_ (Sub.refl _) (fun w h => blk_row h (by omega) rfl)
    have hsrc : ∀ (M : List Res) w', St No w M w' → 0 < n → ∃ a, A = some a ∧ ∀ j u, vs[j]? = some u → w'.cell? (a.add j) = some u := fun M w' hst hn => by
      obtain ⟨b, o, rfl, hb, hc⟩ := hx hn
      exact ⟨_, rfl, fun j u hu => by rw [Addr.add_mid]; exact cellOld hst (hc j u hu)⟩
    refine J.app 0 rfl rfl rfl rfl rfl rfl Tryd.underlying37 inf105 rfl rfl rfl rfl (news := vs) (by omega) (fun w' h hn => hsrc _ w' h hn) hone (by omega) (fun v7 => ?_)
    refine J.asg rfl rfl rfl rfl rfl ?_
    refine J.nil ?_
    refine C.ret ?_
    exact fin1 rfl (RV.tmp rfl) (fun w' h => h.ret 0 rfl (by simp))
end Go.Proofs.YtiminmnmeknioaaDoor

/- State.clone. -/
set_option linter.unusedVariables false
namespace Go.Proofs.YtiminmnmeknioaaDoor
open Go Go.RowKit

/-- The cells of writes. -/
def wcells (xs : List Wr) (us : List Value) : List Value := (List.zipWith (fun x u => [vi x.1, u]) xs us).flatten
theorem wcells_len {xs : List Wr} {us : List Value} (h : us.length = xs.length) : (wcells xs us).length = xs.length * 2 := by
  unfold wcells
  induction xs generalizing us with
  | nil => simp
  | cons x xs ih =>
    cases us with
    | nil => simp at h
    | cons u us =>
      have := ih (us := us) (by simpa using h)
      simp only [List.zipWith_cons_cons, List.flatten_cons, List.length_append, List.length_cons, List.length_nil, this]; omega
theorem wcells_get {xs : List Wr} {us : List Value} (h : us.length = xs.length) (j : Nat) (hj : j < xs.length) : (wcells xs us)[j * 2]? = some (vi xs[j].1) ∧ (wcells xs us)[j * 2 + 1]? = some (us[j]'(by omega)) := by
  induction xs generalizing us j with
  | nil => simp at hj
  | cons x xs ih =>
    cases us with
    | nil => simp at h
    | cons u us =>
      cases j with
      | zero => simp [wcells]
      | succ j =>
        have := ih (us := us) (by simpa using h) j (by simpa using hj)
        have e : wcells (x :: xs) (u :: us) = vi x.1 :: u :: wcells xs us := rfl
        rw [e, show (j + 1) * 2 = j * 2 + 1 + 1 by omega, show j * 2 + 1 + 1 + 1 = (j * 2 + 1) + 1 + 1 by omega]
        simpa using this
end Go.Proofs.YtiminmnmeknioaaDoor

/- State.clone: what it copies. -/
set_option linter.unusedVariables false
namespace Go.Proofs.YtiminmnmeknioaaDoor
open Go Go.RowKit

theorem RWS.vals {fp : Nat → Prop} {w : World} {v : Value} {xs : List Wr} (h : RWS fp w v xs) : ∃ (A : Option Addr) (c : Nat) (us : List Value), v = .slice A xs.length c ∧ xs.length ≤ c ∧ c ≤ 9223372036854775807 ∧ us.length = xs.length ∧ (∀ (j : Nat) u x, us[j]? = some u → xs[j]? = some x → RB fp w u x.2) ∧ (0 < xs.length → ∃ b o, A = some ⟨b, o, none⟩ ∧ fp b ∧ ∀ j u, (wcells xs us)[j]? = some u → w.cell? ⟨b, o + j, none⟩ = some u) := by
  obtain ⟨A, c, rfl, h1, h2, h3⟩ := h.form
  rcases Nat.eq_zero_or_pos xs.length with h0 | h0
  · exact ⟨A, c, [], rfl, h1, h2, by simp [h0], fun j u x hu => by simp at hu, fun h => by omega⟩
  · obtain ⟨b, o, rfl, hb, hc⟩ := h3 h0
    have hus : ((List.range xs.length).map (fun j => (w.cell? ⟨b, o + j * 2 + 1, none⟩).getD .nilIface)).length = xs.length := by simp
    refine ⟨_, c, (List.range xs.length).map (fun j => (w.cell? ⟨b, o + j * 2 + 1, none⟩).getD .nilIface), rfl, h1, h2, hus, fun j u x hu hx => ?_, fun _ => ⟨b, o, rfl, hb, fun j u hu => ?_⟩⟩
    · obtain ⟨u', _, hu', hr⟩ := hc j x hx
      have hj : j < xs.length := (List.getElem?_eq_some_iff.1 hx).1
      rw [List.getElem?_map, List.getElem?_range hj] at hu
      simp only [Option.map_some, hu', Option.getD_some, Option.some.injEq] at hu
      subst hu
      exact hr
    · have hlen := wcells_len hus
      have hj2 : j < (wcells xs ((List.range xs.length).map (fun j => (w.cell? ⟨b, o + j * 2 + 1, none⟩).getD .nilIface))).length := (List.getElem?_eq_some_iff.1 hu).1
      have hj : j / 2 < xs.length := by omega
      obtain ⟨u', hu0, hu1, hr⟩ := hc (j / 2) xs[j / 2] (by simp)
      have hg := wcells_get hus (j / 2) hj
      rcases Nat.mod_two_eq_zero_or_one j with hm | hm
      · rw [show j = j / 2 * 2 by omega, hg.1] at hu
        injection hu with hu
        subst hu
        rw [show o + j = o + j / 2 * 2 by omega]
        exact hu0
      · rw [show j = j / 2 * 2 + 1 by omega, hg.2] at hu
        injection hu with hu
        rw [List.getElem_map, List.getElem_range] at hu
        rw [show o + j = o + j / 2 * 2 + 1 by omega]
        rw [hu1] at hu ⊢
        simpa using hu
end Go.Proofs.YtiminmnmeknioaaDoor

/- State.clone: words. -/
set_option linter.unusedVariables false
namespace Go.Proofs.YtiminmnmeknioaaDoor
open Go Go.RowKit

theorem dkOk {d : Dk} (h : dkBad d = false) : (1 ≤ d.secs.length ∧ d.secs.length ≤ 2048) ∧ d.cache.length ≤ 4096 ∧ (∀ x ∈ d.secs, x.length = 64) ∧ ∀ x ∈ d.cache, 0 ≤ x.1 ∧ x.1 < d.secs.length ∧ x.2.length = 64 := by
  unfold dkBad at h
  simp only [Bool.or_eq_false_iff, decide_eq_false_iff_not] at h
  obtain ⟨⟨⟨⟨h1, h2⟩, h3⟩, h4⟩, h5⟩ := h
  refine ⟨⟨by omega, by omega⟩, by omega, fun x hx => ?_, fun x hx => ?_⟩
  · have := List.any_eq_false.1 h4 x hx
    unfold oddS at this
    simpa using this
  · have := List.any_eq_false.1 h5 x hx
    unfold badW oddS at this
    simp at this
    omega
/-- A row with some of its items set. -/
theorem set_mid {α : Type} {us vs : List α} {i : Nat} {u : α} (hu : us.length = i) (hi : i < vs.length) : (us ++ vs.drop i).set i u = (us ++ [u]) ++ vs.drop (i + 1) := by
  subst hu
  rw [List.set_append_right _ _ (Nat.le_refl _), Nat.sub_self, List.drop_eq_getElem_cons hi, List.set_cons_zero, List.append_assoc]
  rfl
theorem get_mid {α : Type} {us vs : List α} {i : Nat} (hu : us.length = i) (hi : i < vs.length) : (us ++ vs.drop i)[i]? = some vs[i] := by
  subst hu
  rw [List.getElem?_append_right (Nat.le_refl _), Nat.sub_self, List.drop_eq_getElem_cons hi]
  rfl
theorem get_mid2 {α : Type} {us vs : List α} {i : Nat} {u : α} (hu : us.length = i) (h : vs[i]? = some u) : (us ++ vs.drop i)[i]? = some u := by
  obtain ⟨hi, rfl⟩ := List.getElem?_eq_some_iff.1 h
  exact get_mid hu hi
theorem wcells_set {xs : List Wr} {us : List Value} (h : us.length = xs.length) (j : Nat) (hj : j < xs.length) (u : Value) : (wcells xs us).set (j * 2 + 1) u = wcells xs (us.set j u) := by
  induction xs generalizing us j with
  | nil => simp at hj
  | cons x xs ih =>
    cases us with
    | nil => simp at h
    | cons u0 us =>
      cases j with
      | zero => rfl
      | succ j =>
        have := ih (us := us) (by simpa using h) j (by simpa using hj)
        have e : ∀ u us, wcells (x :: xs) (u :: us) = vi x.1 :: u :: wcells xs us := fun _ _ => rfl
        rw [e, show (j + 1) * 2 + 1 = (j * 2 + 1) + 1 + 1 by omega, List.set_cons_succ, List.set_cons_succ, this, List.set_cons_succ, e]
theorem wcells_one {xs : List Wr} {us : List Value} (h : ∀ u ∈ us, u.oneCell' = true) : (wcells xs us).all (·.oneCell') = true := by
  unfold wcells
  rw [List.all_flatten, List.all_eq_true]
  intro l hl
  obtain ⟨j, hj, rfl⟩ := List.mem_iff_getElem.1 hl
  rw [List.getElem_zipWith]
  rw [List.length_zipWith] at hj
  have := h (us[j]'(by omega)) (List.getElem_mem _)
  simp only [List.all_cons, this, List.all_nil]
  rfl
theorem setArr {cs : Array Value} {k n : Nat} {vs : List Value} {u : Value} (h : cs.toList.take n = vs) (hk : k < n) : (cs.setIfInBounds k u).toList.take n = vs.set k u := by
  rw [Array.toList_setIfInBounds, List.take_set, h]
theorem getArr {cs : Array Value} {k n : Nat} {vs : List Value} {u : Value} (h : cs.toList.take n = vs) (hv : vs[k]? = some u) : cs[k]? = some u := by
  rw [← h, List.getElem?_take] at hv
  split at hv
  · simpa using hv
  · cases hv
theorem wcells_get2 {xs : List Wr} {us : List Value} {j : Nat} {u : Value} (h : us.length = xs.length) (hj : j < xs.length) (hu : us[j]? = some u) : (wcells xs us)[j * 2 + 1]? = some u := by
  rw [(wcells_get h j hj).2]
  obtain ⟨_, e⟩ := List.getElem?_eq_some_iff.1 hu
  rw [e]
theorem wcells_get1 {xs : List Wr} {us : List Value} {j : Nat} {x : Wr} (h : us.length = xs.length) (hx : xs[j]? = some x) : (wcells xs us)[j * 2]? = some (vi x.1) := by
  obtain ⟨hj, e⟩ := List.getElem?_eq_some_iff.1 hx
  rw [(wcells_get h j hj).1, e]
/-- A disk in rows of one's own. -/
def PCl (d : Dk) : Value → List Res → Prop := fun v Rs => ∃ A1 c1 A2 c2 vs us fp, us.length = d.cache.length ∧ Rs = [rowR 22 1 (.slice A1 d.secs.length c1) d.secs.length vs, gR 5 vs d.secs, rowR 105 2 (.slice A2 d.cache.length c2) d.cache.length (wcells d.cache us), mR fp us (d.cache.map (·.2))] ∧ v = .agg #[.slice A1 d.secs.length c1, .slice A2 d.cache.length c2]
end Go.Proofs.YtiminmnmeknioaaDoor

/- State.clone: the walk. -/
set_option linter.unusedVariables false
namespace Go.Proofs.YtiminmnmeknioaaDoor
open Go Go.RowKit

theorem clone_calls (w : World) (d : Dk) (sv cv : Value) (hs : BSA w sv d.secs) (hc : WSA w cv d.cache) (hok : dkBad d = false) : Calls Tryd.prog 61 #[.agg #[sv, cv]] w (RetL No w (PCl d)) := by
  obtain ⟨⟨hs1, hs2⟩, hc1, hsl, hcl⟩ := dkOk hok
  obtain ⟨A, c, vs, rfl, h1, h2, hvl, hvb, hvc⟩ := hs.vals
  obtain ⟨A2, c2, us, rfl, k1, k2, hul, hub, huc⟩ := hc.vals
  have hvf : ∀ u ∈ vs, u.oneCell' = true := fun u hu => by
    obtain ⟨j, hj, rfl⟩ := List.mem_iff_getElem.1 hu
    obtain ⟨_, _, e, _⟩ := (hvb j vs[j] (d.secs[j]'(by omega)) (by simp) (by simp)).form
    rw [e]; rfl
  have huf : ∀ u ∈ us, u.oneCell' = true := fun u hu => by
    obtain ⟨j, hj, rfl⟩ := List.mem_iff_getElem.1 hu
    obtain ⟨_, _, e, _⟩ := (hub j us[j] (d.cache[j]'(by omega)) (by simp) (by simp)).form
    rw [e]; rfl
  have hv1 : vs.all (·.oneCell') = true := List.all_eq_true.2 hvf
  have hu1 : (wcells d.cache us).all (·.oneCell') = true := wcells_one huf
  have hvn : A = none → d.secs.length = 0 := fun e => by
    rcases Nat.eq_zero_or_pos d.secs.length with h0 | h0
    · exact h0
    · obtain ⟨b, o, e2, _⟩ := hvc h0
      rw [e] at e2; cases e2
  have hun : A2 = none → d.cache.length = 0 := fun e => by
    rcases Nat.eq_zero_or_pos d.cache.length with h0 | h0
    · exact h0
    · obtain ⟨b, o, e2, _⟩ := huc h0
      rw [e] at e2; cases e2
  refine calls_of_C Tryd.func61 rfl Tryd.ntmps61 (Nat.le_of_ble_eq_true rfl) ?_
  refine C.less (L' := [(0, _)]) ?_ (Sub.cons rfl (Sub.nil _)) (fun w h => h)
  refine C.seq ?_
  refine C.region ?_
  first | refine J.boxc rfl rfl rfl rfl rfl rfl (fun b1 => ?_) | refine J.box rfl rfl rfl rfl rfl (fun b1 => ?_)
  refine J.allocc rfl rfl rfl rfl Tryd.zeroValue39 rfl (fun b2 => ?_)
  refine J.nil ?_
  refine C.seq ?_
  refine C.mono (nK' := fun ds' L' M' => ds' = [] ∧ ∃ A8 c8 A11 c11 b3, Sub [(2, .pointer (some ⟨b2, 0, none⟩)), (3, .pointer (some ⟨b3, 0, none⟩))] L' ∧ ∀ w', St No w M' w' → St No w [blk b3 #[.slice A8 d.secs.length c8, .slice A11 d.cache.length c11] 39, rowR 22 1 (.slice A8 d.secs.length c8) d.secs.length vs, rowR 105 2 (.slice A11 d.cache.length c11) d.cache.length (wcells d.cache us), blk b2 #[.slice none 0 0, .slice none 0 0] 39] w') ?_ ?_
  · refine C.regionD0 8 (by kernel_rfl) ?_
    refine JD.take 0 rfl rfl rfl rfl (by kernel_rfl) (fun w h => h) (R.fld (k := 0) rfl rfl Tryd.runUnderlying39 rfl rfl Tryd.sizeOf36) ?_
    refine JD.take 1 rfl rfl rfl rfl (by kernel_rfl) (fun w h => h) (R.ld rfl rfl Tryd.isAgg36 (fun w h => cellL h 1 rfl rfl)) ?_
    refine JD.take 3 rfl rfl rfl rfl (by kernel_rfl) (fun w h => h) (R.fld (k := 1) rfl rfl Tryd.runUnderlying39 rfl rfl Tryd.sizeOf37) ?_
    refine JD.take 4 rfl rfl rfl rfl (by kernel_rfl) (fun w h => h) (R.ld rfl rfl Tryd.isAgg37 (fun w h => cellL h 1 rfl rfl)) ?_
    refine JD.both 2 7 rfl rfl (by kernel_rfl) ?_ ?_
    · refine J.callr rfl rfl rfl rfl rfl Tryd.call78 (fun w' h => CloneS_calls w' A _ c vs hvl (by omega) hv1 hvn (fun hn => (hvc hn).elim fun b hb => hb.elim fun o ho => ⟨b, o, ho.1, Nat.lt_of_lt_of_le ho.2.1 h.frm.size, fun j u hu => cellOld h (ho.2.2 j u hu)⟩))  ?_
      rintro v8 r8 rfl
      refine J.fact (fun w h => row_form (h.get 0 rfl)) ?_
      rintro ⟨A8, c8, rfl, -, -⟩
      refine J.nil ⟨(fun _ w h => (h.sub ((List.Sublist.refl _).cons _))), ?_⟩
      refine JD.both 5 7 rfl rfl (by kernel_rfl) ?_ ?_
      · refine J.callr rfl rfl rfl rfl rfl Tryd.call79 (fun w' h => CloneW_calls w' A2 _ c2 (wcells d.cache us) (wcells_len hul) (by omega) hu1 hun (fun hn => (huc hn).elim fun b hb => hb.elim fun o ho => ⟨b, o, ho.1, Nat.lt_of_lt_of_le ho.2.1 h.frm.size, fun j u hu => cellOld h (ho.2.2 j u hu)⟩))  ?_
        rintro v11 r11 rfl
        refine J.fact (fun w h => row_form (h.get 0 rfl)) ?_
        rintro ⟨A11, c11, rfl, -, -⟩
        refine J.nil ⟨(fun _ w h => (h.sub (((List.Sublist.refl _).cons _).cons _))), ?_⟩
        refine JD.take 6 rfl rfl rfl rfl (by kernel_rfl) (fun w h => (h.sub (((List.Sublist.refl _).cons _).cons _))) (R.bld (pl := #[(0, 1), (1, 1)]) (cells := #[_, _]) rfl rfl Tryd.zeroValue39 Tryd.runUnderlying39 (fun w => by kernel_rfl) rfl) ?_
        refine JD.step 7 rfl (by kernel_rfl) ?_
        refine J.allocc rfl rfl rfl rfl Tryd.zeroValue39 rfl (fun b3 => ?_)
        refine J.nil ⟨(fun _ w h => (h.sub ((((List.Sublist.refl _).cons _).cons _).cons _))), ?_⟩
        refine JD.step 8 rfl (by kernel_rfl) ?_
        first | refine J.stwc 0 rfl rfl rfl rfl rfl rfl Tryd.sizeOf39 (by first | rfl | assumption | simp [Value.cells, Value.oneCell']) rfl rfl ?_ | refine J.stw 0 rfl rfl rfl rfl rfl rfl Tryd.sizeOf39 (by first | rfl | assumption | simp [Value.cells, Value.oneCell']) rfl rfl ?_
        refine J.nil ⟨(fun h => by cases h), ?_⟩
        refine JD.done (by kernel_rfl) ?_
        exact ⟨rfl, _, _, _, _, _, (Sub.cons rfl (Sub.cons rfl (Sub.nil _))), fun w h => h.ord [0, 2, 1, 3] (by decide)⟩
      · refine J.allocc rfl rfl rfl rfl Tryd.zeroValue39 rfl (fun b3 => ?_)
        refine J.nil ⟨(fun _ w h => (h.sub (((List.Sublist.refl _).cons _).cons _))), ?_⟩
        refine JD.step 5 rfl (by kernel_rfl) ?_
        refine J.callr rfl rfl rfl rfl rfl Tryd.call79 (fun w' h => CloneW_calls w' A2 _ c2 (wcells d.cache us) (wcells_len hul) (by omega) hu1 hun (fun hn => (huc hn).elim fun b hb => hb.elim fun o ho => ⟨b, o, ho.1, Nat.lt_of_lt_of_le ho.2.1 h.frm.size, fun j u hu => cellOld h (ho.2.2 j u hu)⟩))  ?_
        rintro v11 r11 rfl
        refine J.fact (fun w h => row_form (h.get 0 rfl)) ?_
        rintro ⟨A11, c11, rfl, -, -⟩
        refine J.nil ⟨(fun _ w h => (h.sub ((((List.Sublist.refl _).cons _).cons _).cons _))), ?_⟩
        refine JD.take 6 rfl rfl rfl rfl (by kernel_rfl) (fun w h => (h.sub ((((List.Sublist.refl _).cons _).cons _).cons _))) (R.bld (pl := #[(0, 1), (1, 1)]) (cells := #[_, _]) rfl rfl Tryd.zeroValue39 Tryd.runUnderlying39 (fun w => by kernel_rfl) rfl) ?_
        refine JD.step 8 rfl (by kernel_rfl) ?_
        first | refine J.stwc 1 rfl rfl rfl rfl rfl rfl Tryd.sizeOf39 (by first | rfl | assumption | simp [Value.cells, Value.oneCell']) rfl rfl ?_ | refine J.stw 1 rfl rfl rfl rfl rfl rfl Tryd.sizeOf39 (by first | rfl | assumption | simp [Value.cells, Value.oneCell']) rfl rfl ?_
        refine J.nil ⟨(fun h => by cases h), ?_⟩
        refine JD.done (by kernel_rfl) ?_
        exact ⟨rfl, _, _, _, _, _, (Sub.cons rfl (Sub.cons rfl (Sub.nil _))), fun w h => h.ord [1, 2, 0, 3] (by decide)⟩
    · refine J.allocc rfl rfl rfl rfl Tryd.zeroValue39 rfl (fun b3 => ?_)
      refine J.nil ⟨(fun _ w h => (h.sub ((List.Sublist.refl _).cons _))), ?_⟩
      refine JD.step 2 rfl (by kernel_rfl) ?_
      refine J.callr rfl rfl rfl rfl rfl Tryd.call78 (fun w' h => CloneS_calls w' A _ c vs hvl (by omega) hv1 hvn (fun hn => (hvc hn).elim fun b hb => hb.elim fun o ho => ⟨b, o, ho.1, Nat.lt_of_lt_of_le ho.2.1 h.frm.size, fun j u hu => cellOld h (ho.2.2 j u hu)⟩))  ?_
      rintro v8 r8 rfl
      refine J.fact (fun w h => row_form (h.get 0 rfl)) ?_
      rintro ⟨A8, c8, rfl, -, -⟩
      refine J.nil ⟨(fun _ w h => (h.sub (((List.Sublist.refl _).cons _).cons _))), ?_⟩
      refine JD.step 5 rfl (by kernel_rfl) ?_
      refine J.callr rfl rfl rfl rfl rfl Tryd.call79 (fun w' h => CloneW_calls w' A2 _ c2 (wcells d.cache us) (wcells_len hul) (by omega) hu1 hun (fun hn => (huc hn).elim fun b hb => hb.elim fun o ho => ⟨b, o, ho.1, Nat.lt_of_lt_of_le ho.2.1 h.frm.size, fun j u hu => cellOld h (ho.2.2 j u hu)⟩))  ?_
      rintro v11 r11 rfl
      refine J.fact (fun w h => row_form (h.get 0 rfl)) ?_
      rintro ⟨A11, c11, rfl, -, -⟩
      refine J.nil ⟨(fun _ w h => (h.sub ((((List.Sublist.refl _).cons _).cons _).cons _))), ?_⟩
      refine JD.take 6 rfl rfl rfl rfl (by kernel_rfl) (fun w h => (h.sub ((((List.Sublist.refl _).cons _).cons _).cons _))) (R.bld (pl := #[(0, 1), (1, 1)]) (cells := #[_, _]) rfl rfl Tryd.zeroValue39 Tryd.runUnderlying39 (fun w => by kernel_rfl) rfl) ?_
      refine JD.step 8 rfl (by kernel_rfl) ?_
      first | refine J.stwc 2 rfl rfl rfl rfl rfl rfl Tryd.sizeOf39 (by first | rfl | assumption | simp [Value.cells, Value.oneCell']) rfl rfl ?_ | refine J.stw 2 rfl rfl rfl rfl rfl rfl Tryd.sizeOf39 (by first | rfl | assumption | simp [Value.cells, Value.oneCell']) rfl rfl ?_
      refine J.nil ⟨(fun h => by cases h), ?_⟩
      refine JD.done (by kernel_rfl) ?_
      exact ⟨rfl, _, _, _, _, _, (Sub.cons rfl (Sub.cons rfl (Sub.nil _))), fun w h => h.ord [2, 1, 0, 3] (by decide)⟩
  · rintro _ L' M' ⟨rfl, A8, c8, A11, c11, b3, hsub, hM⟩
    refine C.less ?_ hsub hM
    refine C.seq ?_
    refine C.seq ?_
    refine C.region ?_
    refine J.fld (k := 0) rfl rfl rfl rfl rfl Tryd.runUnderlying39 rfl rfl Tryd.sizeOf36 ?_
    refine J.ldo 0 rfl rfl rfl rfl rfl Tryd.isAgg36 rfl rfl ?_
    refine J.len rfl rfl rfl rfl rfl Tryd.runUnderlying36 ?_
    refine J.move rfl rfl rfl rfl rfl ?_
    refine J.nil ?_
    refine C.block ?_
    refine C.loop (σ := Nat × List Value) (fun s => s.1 ≤ d.secs.length ∧ s.2.length = s.1) (fun s => [(2, .pointer (some ⟨b2, 0, none⟩)), (3, .pointer (some ⟨b3, 0, none⟩)), (15, vi (d.secs.length : Int)), (16, vi (s.1 : Int))]) (fun s => [rowR 22 1 (.slice A8 d.secs.length c8) d.secs.length (s.2 ++ vs.drop s.1), gR 5 s.2 (d.secs.take s.1), blk b3 #[.slice A8 d.secs.length c8, .slice A11 d.cache.length c11] 39, rowR 105 2 (.slice A11 d.cache.length c11) d.cache.length (wcells d.cache us), blk b2 #[.slice none 0 0, .slice none 0 0] 39]) (fun s => d.secs.length - s.1) (0, []) ⟨Nat.zero_le _, rfl⟩ ?_ ?_ ?_
    · exact (Sub.cons rfl (Sub.cons rfl (Sub.cons rfl (Sub.cons rfl (Sub.nil _)))))
    · exact fun w h => (h.gnil _).ord [2, 0, 1, 3, 4] (by decide)
    rintro ⟨i, ws⟩ ⟨hi, hws⟩
    dsimp only at hi hws ⊢
    refine C.seq ?_
    refine C.region ?_
    refine J.bin rfl rfl rfl rfl rfl rfl (fun w => rfl) ?_
    refine J.nil ?_
    refine C.seq ?_
    refine C.cond rfl (fun h => ?_) (fun h => ?_)
    · have hlt : i < d.secs.length := by have := of_decide_eq_true h; omega
      have hivs : i < vs.length := by omega
      obtain ⟨u, hu⟩ : ∃ u, vs[i]? = some u := ⟨_, List.getElem?_eq_getElem hivs⟩
      obtain ⟨x, hx⟩ : ∃ x, d.secs[i]? = some x := ⟨_, List.getElem?_eq_getElem hlt⟩
      have hx64 : x.length = 64 := hsl x (List.mem_of_getElem? hx)
      refine C.ex (fun q : Nat × Array Value => [blk q.1 q.2 22, gR 5 ws (d.secs.take i), blk b3 #[.slice A8 d.secs.length c8, .slice A11 d.cache.length c11] 39, rowR 105 2 (.slice A11 d.cache.length c11) d.cache.length (wcells d.cache us), blk b2 #[.slice none 0 0, .slice none 0 0] 39]) _ (fun w h => h.row_blk (by omega)) ?_
      rintro ⟨bv, cv⟩ ⟨rfl, hc8, hc82, hcs, hct⟩
      dsimp only at hcs hct ⊢
      rw [Nat.mul_one] at hct
      refine C.skip ?_
      refine C.seq ?_
      refine C.block ?_
      refine C.seq ?_
      refine C.region ?_
      refine J.move rfl rfl rfl rfl rfl ?_
      refine J.asg rfl rfl rfl rfl rfl ?_
      refine J.nil ?_
      refine C.regionD0 10 (by kernel_rfl) ?_
      refine JD.take 0 rfl rfl rfl rfl (by kernel_rfl) (fun w h => h) (R.fld (k := 0) rfl rfl Tryd.runUnderlying39 rfl rfl Tryd.sizeOf36) ?_
      refine JD.take 1 rfl rfl rfl rfl (by kernel_rfl) (fun w h => h) (R.ld rfl rfl Tryd.isAgg36 (fun w h => cellL h 2 rfl rfl)) ?_
      refine JD.take 2 rfl rfl rfl rfl (by kernel_rfl) (fun w h => h) (R.move rfl rfl) ?_
      refine JD.take 3 rfl rfl rfl rfl (by kernel_rfl) (fun w h => h) (R.fld (k := 0) rfl rfl Tryd.runUnderlying39 rfl rfl Tryd.sizeOf36) ?_
      refine JD.take 4 rfl rfl rfl rfl (by kernel_rfl) (fun w h => h) (R.ld rfl rfl Tryd.isAgg36 (fun w h => cellL h 2 rfl rfl)) ?_
      refine JD.take 5 rfl rfl rfl rfl (by kernel_rfl) (fun w h => h) (R.move rfl rfl) ?_
      refine JD.take 6 rfl rfl rfl rfl (by kernel_rfl) (fun w h => h) (by first | exact (R.idx1 rfl rfl rfl Tryd.runUnderlying36 Tryd.sizeOf22 (by omega)) | exact (R.idx rfl rfl rfl Tryd.runUnderlying36 Tryd.sizeOf22 (by omega))) ?_
      refine JD.take 7 rfl rfl rfl rfl (by kernel_rfl) (fun w h => h) (R.ld rfl rfl Tryd.isAgg22 (fun w h => cellO h 0 rfl (by rw [Nat.zero_add]; exact getArr hct (get_mid2 hws hu)))) ?_
      refine JD.step 8 rfl (by kernel_rfl) ?_
      refine J.callr rfl rfl rfl rfl rfl Tryd.call48 (fun w h => CloneRow_calls w u x (h.ba (hvb i u x hu hx)) (by omega))  ?_
      rintro v27 r27 rfl
      refine J.fact (fun w h => row_form (h.get 0 rfl)) ?_
      rintro ⟨A27, c27, rfl, -, -⟩
      refine J.nil ⟨(fun _ w h => (h.sub ((List.Sublist.refl _).cons _))), ?_⟩
      refine JD.take 9 rfl rfl rfl rfl (by kernel_rfl) (fun w h => (h.sub ((List.Sublist.refl _).cons _))) (by first | exact (R.idx1 rfl rfl rfl Tryd.runUnderlying36 Tryd.sizeOf22 (by omega)) | exact (R.idx rfl rfl rfl Tryd.runUnderlying36 Tryd.sizeOf22 (by omega))) ?_
      refine JD.step 10 rfl (by kernel_rfl) ?_
      refine J.st1 1 rfl rfl rfl rfl rfl rfl Tryd.sizeOf22 rfl rfl (by rw [Nat.blt_eq]; omega) rfl ?_
      refine J.nil ⟨(fun h => by cases h), ?_⟩
      refine JD.done (by kernel_rfl) ?_
      refine C.region ?_
      refine J.bin rfl rfl rfl rfl rfl rfl (fun w => ra_add (by omega)) ?_
      refine J.move rfl rfl rfl rfl rfl ?_
      refine J.nil ?_
      refine ⟨rfl, (i + 1, ws ++ [.slice A27 x.length c27]), ⟨by dsimp only; omega, by dsimp only; simp [hws]⟩, by dsimp only; omega, (Sub.cons rfl (Sub.cons rfl (Sub.cons rfl (Sub.cons rfl (Sub.nil _))))), fun w h => ?_⟩
      have g1 := (h.ord [0, 2, 1, 3, 4, 5] (by decide)).gsnoc
      rw [show d.secs.take i ++ [x] = d.secs.take (i + 1) by rw [List.take_add_one, hx]; rfl] at g1
      refine (g1.ord [1, 0, 2, 3, 4] (by decide)).blk_row2 hc8 hc82 (by simpa using hcs) ?_
      rw [Nat.mul_one, Nat.zero_add, setArr hct hlt, set_mid hws hivs]
    · have hin : i = d.secs.length := by have := of_decide_eq_false h; omega
      rw [hin, List.take_length, List.drop_of_length_le (by omega), List.append_nil]
      refine C.exit rfl ?_
      refine C.seq ?_
      refine C.seq ?_
      refine C.region ?_
      refine J.fld (k := 1) rfl rfl rfl rfl rfl Tryd.runUnderlying39 rfl rfl Tryd.sizeOf37 ?_
      refine J.ldo 2 rfl rfl rfl rfl rfl Tryd.isAgg37 rfl rfl ?_
      refine J.len rfl rfl rfl rfl rfl Tryd.runUnderlying37 ?_
      refine J.move rfl rfl rfl rfl rfl ?_
      refine J.nil ?_
      refine C.block ?_
      refine C.loop (σ := Nat × List Value × (Nat → Prop)) (fun s => s.1 ≤ d.cache.length ∧ s.2.1.length = s.1) (fun s => [(2, .pointer (some ⟨b2, 0, none⟩)), (3, .pointer (some ⟨b3, 0, none⟩)), (32, vi (d.cache.length : Int)), (33, vi (s.1 : Int))]) (fun s => [rowR 105 2 (.slice A11 d.cache.length c11) d.cache.length (wcells d.cache (s.2.1 ++ us.drop s.1)), mR s.2.2 s.2.1 ((d.cache.take s.1).map (·.2)), rowR 22 1 (.slice A8 d.secs.length c8) d.secs.length ws, gR 5 ws d.secs, blk b3 #[.slice A8 d.secs.length c8, .slice A11 d.cache.length c11] 39, blk b2 #[.slice none 0 0, .slice none 0 0] 39]) (fun s => d.cache.length - s.1) (0, [], fun _ => False) ⟨Nat.zero_le _, rfl⟩ ?_ ?_ ?_
      · exact (Sub.cons rfl (Sub.cons rfl (Sub.cons rfl (Sub.cons rfl (Sub.nil _)))))
      · exact fun w h => h.mnil.ord [4, 0, 1, 2, 3, 5] (by decide)
      rintro ⟨i, zs, fp⟩ ⟨hi, hzs⟩
      dsimp only at hi hzs ⊢
      refine C.seq ?_
      refine C.region ?_
      refine J.bin rfl rfl rfl rfl rfl rfl (fun w => rfl) ?_
      refine J.nil ?_
      refine C.seq ?_
      refine C.cond rfl (fun h => ?_) (fun h => ?_)
      · have hlt : i < d.cache.length := by have := of_decide_eq_true h; omega
        have hius : i < us.length := by omega
        obtain ⟨u, hu⟩ : ∃ u, us[i]? = some u := ⟨_, List.getElem?_eq_getElem hius⟩
        obtain ⟨x, hx⟩ : ∃ x, d.cache[i]? = some x := ⟨_, List.getElem?_eq_getElem hlt⟩
        have hx64 := hcl x (List.mem_of_getElem? hx)
        have hzl : (zs ++ us.drop i).length = d.cache.length := by rw [List.length_append, List.length_drop]; omega
        refine C.ex (fun q : Nat × Array Value => [blk q.1 q.2 105, mR fp zs ((d.cache.take i).map (·.2)), rowR 22 1 (.slice A8 d.secs.length c8) d.secs.length ws, gR 5 ws d.secs, blk b3 #[.slice A8 d.secs.length c8, .slice A11 d.cache.length c11] 39, blk b2 #[.slice none 0 0, .slice none 0 0] 39]) _ (fun w h => h.row_blk (by omega)) ?_
        rintro ⟨bv, cv⟩ ⟨rfl, hc8, hc82, hcs, hct⟩
        dsimp only at hcs hct ⊢
        refine C.skip ?_
        refine C.seq ?_
        refine C.block ?_
        refine C.seq ?_
        refine C.region ?_
        refine J.move rfl rfl rfl rfl rfl ?_
        refine J.asg rfl rfl rfl rfl rfl ?_
        refine J.nil ?_
        refine C.regionD0 12 (by kernel_rfl) ?_
        refine JD.take 0 rfl rfl rfl rfl (by kernel_rfl) (fun w h => h) (R.fld (k := 1) rfl rfl Tryd.runUnderlying39 rfl rfl Tryd.sizeOf37) ?_
        refine JD.take 1 rfl rfl rfl rfl (by kernel_rfl) (fun w h => h) (R.ld rfl rfl Tryd.isAgg37 (fun w h => cellL h 4 rfl rfl)) ?_
        refine JD.take 2 rfl rfl rfl rfl (by kernel_rfl) (fun w h => h) (R.move rfl rfl) ?_
        refine JD.take 3 rfl rfl rfl rfl (by kernel_rfl) (fun w h => h) (R.fld (k := 1) rfl rfl Tryd.runUnderlying39 rfl rfl Tryd.sizeOf37) ?_
        refine JD.take 4 rfl rfl rfl rfl (by kernel_rfl) (fun w h => h) (R.ld rfl rfl Tryd.isAgg37 (fun w h => cellL h 4 rfl rfl)) ?_
        refine JD.take 5 rfl rfl rfl rfl (by kernel_rfl) (fun w h => h) (R.move rfl rfl) ?_
        refine JD.take 6 rfl rfl rfl rfl (by kernel_rfl) (fun w h => h) (by first | exact (R.idxn rfl rfl rfl Tryd.runUnderlying37 Tryd.sizeOf105 (by omega)) | exact (R.idx rfl rfl rfl Tryd.runUnderlying37 Tryd.sizeOf105 (by omega))) ?_
        refine JD.take 7 rfl rfl rfl rfl (by kernel_rfl) (fun w h => h) (R.fld (k := 1) rfl rfl Tryd.runUnderlying105 rfl rfl Tryd.sizeOf22) ?_
        refine JD.take 8 rfl rfl rfl rfl (by kernel_rfl) (fun w h => h) (R.ld rfl rfl Tryd.isAgg22 (fun w h => cellO h 0 rfl (by rw [Nat.zero_add]; exact getArr hct (wcells_get2 hzl hlt (get_mid2 hzs hu))))) ?_
        refine JD.step 9 rfl (by kernel_rfl) ?_
        refine J.callr rfl rfl rfl rfl rfl Tryd.call48 (fun w h => CloneRow_calls w u x.2 (h.ba (hub i u x hu hx)) (by omega))  ?_
        rintro v45 r45 rfl
        refine J.fact (fun w h => row_form (h.get 0 rfl)) ?_
        rintro ⟨A45, c45, rfl, -, -⟩
        refine J.nil ⟨(fun _ w h => (h.sub ((List.Sublist.refl _).cons _))), ?_⟩
        refine JD.take 10 rfl rfl rfl rfl (by kernel_rfl) (fun w h => (h.sub ((List.Sublist.refl _).cons _))) (by first | exact (R.idxn rfl rfl rfl Tryd.runUnderlying37 Tryd.sizeOf105 (by omega)) | exact (R.idx rfl rfl rfl Tryd.runUnderlying37 Tryd.sizeOf105 (by omega))) ?_
        refine JD.take 11 rfl rfl rfl rfl (by kernel_rfl) (fun w h => (h.sub ((List.Sublist.refl _).cons _))) (R.fld (k := 1) rfl rfl Tryd.runUnderlying105 rfl rfl Tryd.sizeOf22) ?_
        refine JD.step 12 rfl (by kernel_rfl) ?_
        refine J.st1 1 rfl rfl rfl rfl rfl rfl Tryd.sizeOf22 rfl rfl (by rw [Nat.blt_eq]; omega) rfl ?_
        refine J.nil ⟨(fun h => by cases h), ?_⟩
        refine JD.done (by kernel_rfl) ?_
        refine C.region ?_
        refine J.bin rfl rfl rfl rfl rfl rfl (fun w => ra_add (by omega)) ?_
        refine J.move rfl rfl rfl rfl rfl ?_
        refine J.nil ?_
        refine ⟨rfl, (i + 1, zs ++ [.slice A45 x.2.length c45], fun b => fp b ∨ (Value.slice A45 x.2.length c45).ownBlock = some b), ⟨by dsimp only; omega, by dsimp only; simp [hzs]⟩, by dsimp only; omega, (Sub.cons rfl (Sub.cons rfl (Sub.cons rfl (Sub.cons rfl (Sub.nil _))))), fun w h => ?_⟩
        have g1 := (row_rb (h.ord [0, 2, 1, 3, 4, 5, 6] (by decide)) rfl).msnoc
        rw [show (d.cache.take i).map (·.2) ++ [x.2] = (d.cache.take (i + 1)).map (·.2) by rw [List.take_add_one, hx, List.map_append]; rfl] at g1
        refine (g1.ord [1, 0, 2, 3, 4, 5] (by decide)).blk_row2 hc8 hc82 (by simpa using hcs) ?_
        rw [Nat.zero_add, setArr hct (by omega), wcells_set hzl i hlt, set_mid hzs hius]
      · have hin : i = d.cache.length := by have := of_decide_eq_false h; omega
        rw [hin, List.take_length, List.drop_of_length_le (by omega), List.append_nil]
        refine C.exit rfl ?_
        refine C.seq ?_
        refine C.region ?_
        refine J.ldw 4 rfl rfl rfl rfl rfl Tryd.isAgg39 rfl Tryd.sizeOf39 ?_
        first | refine J.stwc 5 rfl rfl rfl rfl rfl rfl Tryd.sizeOf39 (by first | rfl | assumption | simp [Value.cells, Value.oneCell']) rfl rfl ?_ | refine J.stw 5 rfl rfl rfl rfl rfl rfl Tryd.sizeOf39 (by first | rfl | assumption | simp [Value.cells, Value.oneCell']) rfl rfl ?_
        refine J.nil ?_
        refine C.ret ?_
        refine fin1 rfl (RV.cellw 5 rfl Tryd.isAgg39 rfl Tryd.sizeOf39) (fun w' h => ?_)
        exact (h.ord [2, 3, 0, 1] (by decide)).retL (List.Sublist.refl _) ⟨A8, c8, A11, c11, ws, zs, fp, by omega, rfl, rfl⟩
end Go.Proofs.YtiminmnmeknioaaDoor

/- slices.Chunk of octets, by 64. -/
set_option linter.unusedVariables false
namespace Go.Proofs.YtiminmnmeknioaaDoor
open Go Go.RowKit

theorem Chunk_calls (w : World) (A : Option Addr) (n c : Nat) : Calls Tryd.prog 62 #[.slice A n c, vi 64] w (RetL No w (fun u Rs => ∃ ba bn, u = .func (.func 80) #[] #[.pointer (some ⟨ba, 0, none⟩), .pointer (some ⟨bn, 0, none⟩)] ∧ Rs = [blk bn #[vi 64] 3, blk ba #[.slice A n c] 22])) := by
  refine calls_of_C Tryd.func62 rfl Tryd.ntmps62 (Nat.le_of_ble_eq_true rfl) ?_
  refine C.less (L' := [(0, _), (1, _)]) ?_ (Sub.cons rfl (Sub.cons rfl (Sub.nil _))) (fun w h => h)
  refine C.seq ?_
  refine C.region ?_
  first | refine J.boxc rfl rfl rfl rfl rfl rfl (fun b2 => ?_) | refine J.box rfl rfl rfl rfl rfl (fun b2 => ?_)
  first | refine J.boxc rfl rfl rfl rfl rfl rfl (fun b3 => ?_) | refine J.box rfl rfl rfl rfl rfl (fun b3 => ?_)
  refine J.asg rfl rfl rfl rfl rfl ?_
  refine J.nil ?_
  refine C.seq ?_
  refine C.seq ?_
  refine C.region ?_
  refine J.ldo 0 rfl rfl rfl rfl rfl Tryd.isAgg3 rfl rfl ?_
  refine J.bin rfl rfl rfl rfl rfl rfl (fun w => rfl) ?_
  refine J.nil ?_
  refine C.cond_f rfl ?_
  refine C.skip ?_
  refine C.seq ?_
  refine C.region ?_
  refine J.mkfn2 rfl rfl rfl rfl rfl rfl ?_
  refine J.asg rfl rfl rfl rfl rfl ?_
  refine J.nil ?_
  refine C.ret ?_
  exact fin1 rfl (RV.tmp rfl) (fun w' h => h.retL (List.Sublist.refl _) ⟨_, _, rfl, rfl⟩)
theorem chunk_sub {A : Option Addr} {N c i : Nat} {k : Int} (h0 : 0 ≤ k) (hk : k.toNat = min 64 (N - i * 64)) (hi : i * 64 < N) (xs : List UInt8) : SubV (.slice A N c) xs (.slice (if (((i * 64 : Nat) : Int) + k).toNat = ((i * 64 : Nat) : Int).toNat then A else A.map (·.add (((i * 64 : Nat) : Int).toNat * 1))) ((((i * 64 : Nat) : Int) + k).toNat - ((i * 64 : Nat) : Int).toNat) ((((i * 64 : Nat) : Int) + k).toNat - ((i * 64 : Nat) : Int).toNat)) ((xs.drop (i * 64)).take 64) := fun fp w hh => by
  have hl := srcB_len hh
  have e : (xs.drop (i * 64)).take 64 = (xs.drop (i * 64)).take k.toNat := by
    rw [hk]
    rcases Nat.lt_or_ge (N - i * 64) 64 with h | h
    · rw [List.take_of_length_le (by rw [List.length_drop]; omega), List.take_of_length_le (by rw [List.length_drop]; omega)]
    · rw [Nat.min_eq_left h]
  rw [e]
  exact SubV.cut3 _ _ _ (i * 64) k.toNat rfl (by omega) rfl (by omega) fp w hh
theorem chunk_it {mu : Nat → Prop} {w0 w : World} (l ba bn : Nat) (rec : Loop) (A : Option Addr) (N c : Nat) (Inv : Nat → List Res → Prop) (Stop : List Res → Prop) (kr ka kn : Nat) (hN : N ≤ c) (hc : N ≤ 140737488355328)
    (hpos : ∀ i M, Inv i M → M[kr]? = some (obj l (lp .ready none rec)) ∧ M[ka]? = some (blk ba #[.slice A N c] 22) ∧ M[kn]? = some (blk bn #[vi 64] 3)) (hp : rec.params.size = 1)
    (hround : ∀ i M u (w : World), i * 64 < N → Inv i M → (∀ xs : List UInt8, SubV (.slice A N c) xs u ((xs.drop (i * 64)).take 64)) → St mu w0 M w → RoundIn (FW none) 0 Tryd.prog l rec.fn (rtmps rec [u]) rec.assign rec.body w (fun e w' => ∃ b, e = .returned (.bool b) ∧ ∃ M', St mu w0 M' w' ∧ (if b then Inv (i + 1) M' else Stop M')))
    {M0 : List Res} (h0 : Inv 0 M0) (hst : St mu w0 M0 w) :
    Calls Tryd.prog 80 #[yld l, .pointer (some ⟨ba, 0, none⟩), .pointer (some ⟨bn, 0, none⟩)] w (fun e w' => (∃ v, e = .returned v) ∧ ((∃ M, St mu w0 M w' ∧ Inv ((N + 63) / 64) M) ∨ ∃ M, St mu w0 M w' ∧ Stop M)) := by
  refine calls_of_Cg (mu := mu) (M0 := M0) Tryd.func80 rfl Tryd.ntmps80 (Nat.le_of_ble_eq_true rfl) hst ?_
  refine C.less (L' := [(0, _), (1, _), (2, _)]) ?_ (Sub.cons rfl (Sub.cons rfl (Sub.cons rfl (Sub.nil _)))) (fun w h => h)
  refine C.seq ?_
  refine C.region ?_
  refine J.asg rfl rfl rfl rfl rfl ?_
  refine J.nil ?_
  refine C.block ?_
  refine C.loop (σ := Nat × List Res) (fun s => Inv s.1 s.2 ∧ s.1 * 64 < N + 64) (fun s => [(0, yld l), (1, .pointer (some ⟨ba, 0, none⟩)), (2, .pointer (some ⟨bn, 0, none⟩)), (4, vi ((s.1 * 64 : Nat) : Int))]) (fun s => s.2) (fun s => N + 64 - s.1 * 64) (0, M0) ⟨h0, by omega⟩ ?_ ?_ ?_
  · exact (Sub.cons rfl (Sub.cons rfl (Sub.cons rfl (Sub.cons rfl (Sub.nil _)))))
  · exact fun w h => h
  rintro ⟨i, M⟩ ⟨hi, hiN⟩
  dsimp only at hi hiN ⊢
  obtain ⟨p1, p2, p3⟩ := hpos i M hi
  refine C.seq ?_
  refine C.seq ?_
  refine C.region ?_
  refine J.move rfl rfl rfl rfl rfl ?_
  refine J.ld rfl rfl rfl rfl rfl Tryd.isAgg22 (fun w h => cellO h ka p2 rfl) ?_
  refine J.len rfl rfl rfl rfl rfl Tryd.runUnderlying22 ?_
  refine J.bin rfl rfl rfl rfl rfl rfl (fun w => rfl) ?_
  refine J.nil ?_
  refine C.cond rfl (fun h => ?_) (fun h => ?_)
  · have hlt : i * 64 < N := by have := of_decide_eq_true h; omega
    refine C.skip ?_
    refine C.seq ?_
    refine C.block ?_
    refine C.seq ?_
    refine C.regionD0 7 (by kernel_rfl) ?_
    refine JD.take 2 rfl rfl rfl rfl (by kernel_rfl) (fun w h => h) (R.move rfl rfl) ?_
    refine JD.take 0 rfl rfl rfl rfl (by kernel_rfl) (fun w h => h) (R.ld rfl rfl Tryd.isAgg3 (fun w h => cellO h kn p3 rfl)) ?_
    refine JD.take 1 rfl rfl rfl rfl (by kernel_rfl) (fun w h => h) (R.ld rfl rfl Tryd.isAgg22 (fun w h => cellO h ka p2 rfl)) ?_
    refine JD.take 3 rfl rfl rfl rfl (by kernel_rfl) (fun w h => h) (R.slc (l1 := some _) (h1 := none) (m1 := none) rfl rfl rfl rfl rfl (slc_l Tryd.underlying22 Tryd.sizeOf5 (by omega) (by omega))) ?_
    refine JD.take 4 rfl rfl rfl rfl (by kernel_rfl) (fun w h => h) (R.len rfl rfl Tryd.runUnderlying22) ?_
    refine JD.take 5 rfl rfl rfl rfl (by kernel_rfl) (fun w h => h) (R.min rfl rfl rfl) ?_
    refine JD.take 6 rfl rfl rfl rfl (by kernel_rfl) (fun w h => h) (R.asg rfl rfl) ?_
    refine JD.done (by kernel_rfl) ?_
    refine C.seq ?_
    refine C.region ?_
    refine J.move rfl rfl rfl rfl rfl ?_
    refine J.ld rfl rfl rfl rfl rfl Tryd.isAgg22 (fun w h => cellO h ka p2 rfl) ?_
    rw [show (N - (((i * 64 : Nat) : Int)).toNat : Nat) = N - i * 64 by omega]
    generalize hk : (if ((N - i * 64 : Nat) : Int) < 64 then ((N - i * 64 : Nat) : Int) else 64) = k
    have hk0 : 0 < k ∧ k.toNat = min 64 (N - i * 64) := by rw [← hk]; split <;> omega
    obtain ⟨hk0, hk1⟩ := hk0
    refine J.move rfl rfl rfl rfl rfl ?_
    refine J.move rfl rfl rfl rfl rfl ?_
    refine J.move rfl rfl rfl rfl rfl ?_
    refine J.bin rfl rfl rfl rfl rfl rfl (fun w => ra_add (by omega)) ?_
    refine J.move rfl rfl rfl rfl rfl ?_
    refine J.move rfl rfl rfl rfl rfl ?_
    refine J.bin rfl rfl rfl rfl rfl rfl (fun w => ra_add (by omega)) ?_
    refine J.slc (l1 := some _) (h1 := some _) (m1 := some _) rfl rfl rfl rfl rfl rfl rfl rfl (slc_lhm Tryd.underlying22 Tryd.sizeOf5 (by omega) (by omega) (by omega) (by omega)) ?_
    refine J.yield kr (vs := [_]) (Φ := fun b M' => if b then Inv (i + 1) M' else Stop M') rfl rfl rfl rfl rfl rfl p1 (by rw [hp]; rfl) (fun w h => hround i M _ w hlt hi (chunk_sub (by omega) hk1 hlt) h) ?_
    rintro b M' hb
    cases b
    · refine J.not rfl rfl rfl rfl rfl ?_
      refine J.nil ?_
      refine C.cond_t rfl ?_
      refine C.ret ?_
      exact fin0 rfl (fun w' h => ⟨⟨_, rfl⟩, .inr ⟨M', h, hb⟩⟩)
    · obtain ⟨q1, q2, q3⟩ := hpos (i + 1) M' hb
      refine J.not rfl rfl rfl rfl rfl ?_
      refine J.nil ?_
      refine C.cond_f rfl ?_
      refine C.skip ?_
      refine C.region ?_
      refine J.move rfl rfl rfl rfl rfl ?_
      refine J.ld rfl rfl rfl rfl rfl Tryd.isAgg3 (fun w h => cellO h kn q3 rfl) ?_
      refine J.bin rfl rfl rfl rfl rfl rfl (fun w => ra_add (by omega)) ?_
      refine J.asg rfl rfl rfl rfl rfl ?_
      refine J.nil ?_
      exact ⟨rfl, (i + 1, M'), ⟨hb, by dsimp only; omega⟩, by dsimp only; omega, (Sub.cons rfl (Sub.cons rfl (Sub.cons rfl (Sub.cons (by rw [Nat.add_mul]; rfl) (Sub.nil _))))), fun w h => h⟩
  · have hge : N ≤ i * 64 := by have := of_decide_eq_false h; omega
    refine C.exit rfl ?_
    exact fin0 rfl (fun w' h => ⟨⟨_, rfl⟩, .inl ⟨M, h, by rw [show (N + 63) / 64 = i by omega]; exact hi⟩⟩)
end Go.Proofs.YtiminmnmeknioaaDoor

/- State.put. -/
set_option linter.unusedVariables false
namespace Go.Proofs.YtiminmnmeknioaaDoor
open Go Go.RowKit

def pad64 (x : List UInt8) : List UInt8 := x ++ List.replicate (64 - x.length) 0
def putW (s : Int) (data : List UInt8) (k : Nat) : List Wr := (List.range k).map fun (i : Nat) => (s + (i : Int), pad64 ((data.drop (i * 64)).take 64))
def nch (data : List UInt8) : Nat := (data.length + 63) / 64
def dkPut (d : Dk) (s : Int) (data : List UInt8) : Dk := ⟨d.secs, d.cache ++ putW s data (nch data)⟩
theorem putW_succ (s : Int) (data : List UInt8) (k : Nat) : putW s data (k + 1) = putW s data k ++ [(s + k, pad64 ((data.drop (k * 64)).take 64))] := by unfold putW; rw [List.range_succ, List.map_append]; rfl
theorem putW_len (s : Int) (data : List UInt8) (k : Nat) : (putW s data k).length = k := by unfold putW; simp
theorem pad64_len {x : List UInt8} (h : x.length ≤ 64) : (pad64 x).length = 64 := by unfold pad64; simp; omega
/-- A disk in memory of the call's own. -/
def PSt (d : Dk) : Value → List Res → Prop := fun v Rs => ∃ A1 c1 A2 c2 vs fp, Rs = [rowR 22 1 (.slice A1 d.secs.length c1) d.secs.length vs, gR 5 vs d.secs, rwsR fp (.slice A2 d.cache.length c2) d.cache] ∧ v = .agg #[.slice A1 d.secs.length c1, .slice A2 d.cache.length c2]
theorem wcells_snoc (xs : List Wr) (us : List Value) (h : us.length = xs.length) (x : Wr) (u : Value) : wcells (xs ++ [x]) (us ++ [u]) = wcells xs us ++ [vi x.1, u] := by
  unfold wcells
  rw [List.zipWith_append h.symm, List.flatten_append]
  rfl
theorem St.rws_of {mu : Nat → Prop} {w0 w : World} {M : List Res} {e : TypeId} {v : Value} {n : Nat} {xs : List Wr} {us : List Value} {fp : Nat → Prop} (h : St mu w0 (rowR e 2 v n (wcells xs us) :: mR fp us (xs.map (·.2)) :: M) w) : St mu w0 (rwsR (fun b => v.ownBlock = some b ∨ fp b) v xs :: M) w := by
  have h1 : w.ownsRow 0 e 2 v n (wcells xs us) := h.get 0 rfl
  have h2 : (mR fp us (xs.map (·.2))).hold w := h.get 1 rfl
  have hl2 : us.length = xs.length := by have := h2.1; simpa using this
  have hl : xs.length = n := by have := h1.1; rw [wcells_len hl2] at this; omega
  refine h.merge ?_ (fun b hb => hb)
  show RWS _ w v xs
  rcases h1.2 with ⟨rfl, rfl⟩ | ⟨g, cap, cur, rfl, _, hh, e1, e2, e3, e4⟩
  · obtain rfl : xs = [] := List.eq_nil_of_length_eq_zero (by omega)
    exact RWS.nil
  · refine RWS.mk hl e1 (by simpa [maxLen] using e2) fun hn => ⟨g, 0, rfl, .inl rfl, fun j x hx => ?_⟩
    have hj : j < xs.length := (List.getElem?_eq_some_iff.1 hx).1
    have hu : us[j]? = some (us[j]'(by omega)) := List.getElem?_eq_getElem (by omega)
    have c1 := h1.cells (g := g) rfl (j * 2) _ (wcells_get1 hl2 hx)
    have c2 := h1.cells (g := g) rfl (j * 2 + 1) _ (wcells_get2 hl2 hj hu)
    rw [Addr.add_mid] at c1 c2
    exact ⟨_, c1, c2, RB.imp (h2.2 j _ x.2 hu (by rw [List.getElem?_map, hx]; rfl)) (fun _ h => .inr h) (fun _ _ => rfl)⟩
theorem pad_cells (x : List UInt8) (z : Value) : (List.replicate 64 z).toArray.toList.take 0 ++ x.map vu8 ++ (List.replicate 64 z).toArray.toList.drop (0 + (x.map vu8).length) = x.map vu8 ++ List.replicate (64 - x.length) z := by
  rw [List.take_zero, List.nil_append, Nat.zero_add, List.length_map, List.drop_replicate]
theorem pad_row {mu : Nat → Prop} {w0 w : World} {M : List Res} {b : Nat} {e : TypeId} {x : List UInt8} {cs : List Value} (hx : x.length ≤ 64) (hcs : cs = x.map vu8 ++ List.replicate (64 - x.length) (Value.int .u8 0)) (h : St mu w0 (blk b cs.toArray e :: M) w) : St mu w0 (rbR (fun k => (Value.slice (some ⟨b, 0, none⟩) 64 64).ownBlock = some k) (.slice (some ⟨b, 0, none⟩) 64 64) (pad64 x) :: M) w := by
  subst hcs
  have h2 := blk_row (n := 64) (sz := 1) h (by omega) (by simp; omega)
  refine row_rb h2 ?_
  unfold pad64
  rw [List.map_append, List.map_replicate]
  rfl
end Go.Proofs.YtiminmnmeknioaaDoor

/- State.put: the walk. -/
set_option linter.unusedVariables false
namespace Go.Proofs.YtiminmnmeknioaaDoor
open Go Go.RowKit

theorem put_calls (w : World) (d : Dk) (sv cv dv : Value) (s : Int) (data : List UInt8) (hs : BSA w sv d.secs) (hc : WSA w cv d.cache) (hok : dkBad d = false) (hx : BA w dv data) (h0 : 0 ≤ s) (hsn : s + nch data ≤ 2048) : Calls Tryd.prog 40 #[.agg #[sv, cv], vi s, dv] w (RetL No w (PSt (dkPut d s data))) := by
  have hs0 := hs
  have hc0 := hc
  have hx0 := hx
  obtain ⟨⟨hs1, hs2⟩, hc1, hsl, hcl⟩ := dkOk hok
  obtain ⟨As, cs, rfl, -, -, -⟩ := hs.form
  obtain ⟨Ac, cc, rfl, -, -, -⟩ := hc.form
  obtain ⟨A, c, rfl, hN, hcN, -⟩ := hx.form
  have hnch : nch data = (data.length + 63) / 64 := rfl
  refine calls_of_CM (mu := No) (M0 := []) Tryd.func40 rfl Tryd.ntmps40 (Nat.le_of_ble_eq_true rfl) (St.init w) ?_
  refine C.less (L' := [(0, _), (1, _), (2, _)]) ?_ (Sub.cons rfl (Sub.cons rfl (Sub.cons rfl (Sub.nil _)))) (fun w h => h)
  refine C.seq ?_
  refine C.region ?_
  first | refine J.boxc rfl rfl rfl rfl rfl rfl (fun b3 => ?_) | refine J.box rfl rfl rfl rfl rfl (fun b3 => ?_)
  first | refine J.boxc rfl rfl rfl rfl rfl rfl (fun b4 => ?_) | refine J.box rfl rfl rfl rfl rfl (fun b4 => ?_)
  refine J.allocc rfl rfl rfl rfl Tryd.zeroValue39 rfl (fun b6 => ?_)
  refine J.nil ?_
  refine C.seq ?_
  refine C.region ?_
  refine J.ldw 2 rfl rfl rfl rfl rfl Tryd.isAgg39 rfl Tryd.sizeOf39 ?_
  refine J.callrl rfl rfl rfl rfl rfl Tryd.call61 (fun w h => clone_calls w d _ _ (h.bsa hs0) (h.wsa hc0) hok)  ?_
  rintro v11 R11 ⟨A1, c1, A2, c2, vs, us, fp, hul0, rfl, rfl⟩
  refine J.allocc rfl rfl rfl rfl Tryd.zeroValue39 rfl (fun b7 => ?_)
  first | refine J.stwc 0 rfl rfl rfl rfl rfl rfl Tryd.sizeOf39 (by first | rfl | assumption | simp [Value.cells, Value.oneCell']) rfl rfl ?_ | refine J.stw 0 rfl rfl rfl rfl rfl rfl Tryd.sizeOf39 (by first | rfl | assumption | simp [Value.cells, Value.oneCell']) rfl rfl ?_
  refine J.nil ?_
  refine C.seq ?_
  refine C.seq ?_
  refine C.region ?_
  refine J.move rfl rfl rfl rfl rfl ?_
  refine J.callrl rfl rfl rfl rfl rfl Tryd.call62 (fun w h => Chunk_calls w A data.length c)  ?_
  rintro v13 R13 ⟨ba, bn, rfl, rfl⟩
  refine J.nil ?_
  refine C.block ?_
  refine C.rangeFunc rfl rfl Tryd.call80 ?_
  intro k l r hps has hbd hhas w1 hst
  refine (chunk_it l ba bn r A data.length c (fun i M => ∃ A2 c2 us fp, us.length = d.cache.length + i ∧ M = [obj l (lp .ready none r), obj k (.deferred (some [])), blk bn #[vi 64] 3, blk ba #[.slice A data.length c] 22, blk b7 #[.slice A1 d.secs.length c1, .slice A2 (d.cache.length + i) c2] 39, rowR 22 1 (.slice A1 d.secs.length c1) d.secs.length vs, gR 5 vs d.secs, rowR 105 2 (.slice A2 (d.cache.length + i) c2) (d.cache.length + i) (wcells (d.cache ++ putW s data i) us), mR fp us ((d.cache ++ putW s data i).map (·.2)), blk b6 #[.slice none 0 0, .slice none 0 0] 39, blk b4 #[vi (s + i)] 3]) (fun _ => False) 0 3 2 hN (by omega) ?_ (by rw [hps]; rfl) ?_ (M0 := [obj l (lp .ready none r), obj k (.deferred (some [])), blk bn #[vi 64] 3, blk ba #[.slice A data.length c] 22, blk b7 #[.slice A1 d.secs.length c1, .slice A2 d.cache.length c2] 39, rowR 22 1 (.slice A1 d.secs.length c1) d.secs.length vs, gR 5 vs d.secs, rowR 105 2 (.slice A2 d.cache.length c2) d.cache.length (wcells d.cache us), mR fp us (d.cache.map (·.2)), blk b6 #[.slice none 0 0, .slice none 0 0] 39, blk b4 #[vi s] 3]) ⟨A2, c2, us, fp, hul0, by simp [putW]⟩ (hst.ord [0, 1, 2, 3, 4, 5, 6, 7, 8, 9, 10] (by decide))).mono ?_
  · rintro i M ⟨A2, c2, us, fp, hul, rfl⟩
    exact ⟨rfl, rfl, rfl⟩
  · rintro i M u w2 hi ⟨A2, c2, us, fp, hul, rfl⟩ hu hw2
    have hsub := hu data
    obtain ⟨Au, cu, rfl, hu1, hu2, hu3⟩ := (hsub _ _ hx0).form
    generalize hxe : (data.drop (i * 64)).take 64 = x at hsub hu1 hu2 hu3 ⊢
    have hx64 : x.length ≤ 64 := by rw [← hxe, List.length_take]; omega
    have hin : i < nch data := by omega
    refine (round_C (n := 0) (Φ := fun b M' => b = true ∧ ∀ w', St No w M' w' → ∃ M'', St No w M'' w' ∧ ∃ A2 c2 us fp, us.length = d.cache.length + (i + 1) ∧ M'' = [obj l (lp .ready none r), obj k (.deferred (some [])), blk bn #[vi 64] 3, blk ba #[.slice A data.length c] 22, blk b7 #[.slice A1 d.secs.length c1, .slice A2 (d.cache.length + (i + 1)) c2] 39, rowR 22 1 (.slice A1 d.secs.length c1) d.secs.length vs, gR 5 vs d.secs, rowR 105 2 (.slice A2 (d.cache.length + (i + 1)) c2) (d.cache.length + (i + 1)) (wcells (d.cache ++ putW s data (i + 1)) us), mR fp us ((d.cache ++ putW s data (i + 1)).map (·.2)), blk b6 #[.slice none 0 0, .slice none 0 0] 39, blk b4 #[vi (s + ((i + 1 : Nat) : Int))] 3]) [] hw2 (hhas.round1 hps rfl) ?_).mono ?_
    · rw [has]
      refine C.region ?_
      refine J.asg rfl rfl rfl rfl rfl ?_
      refine J.nil ?_
      refine ⟨0, rfl, ?_⟩
      rw [hbd]
      refine C.block ?_
      refine C.seq ?_
      refine C.region ?_
      refine J.mk rfl rfl rfl rfl rfl rfl (n := 64) rfl rfl  Tryd.underlying22 inf5 rfl  (by omega) (by omega) (fun b15 => ?_)
      refine J.asg rfl rfl rfl rfl rfl ?_
      refine J.nil ?_
      refine C.seq ?_
      refine C.region ?_
      refine J.move rfl rfl rfl rfl rfl ?_
      refine J.move rfl rfl rfl rfl rfl ?_
      refine J.copy 0 rfl rfl rfl rfl rfl rfl Tryd.underlying22 (inf_size inf5) rfl (news := x.map vu8) (by rw [List.length_map]; exact (Nat.min_eq_left hx64).symm) (fun w' h hn => srcB (hsub _ _ (h.ba hx0)) hn) (by simp; omega) (all_u8 x) ?_
      refine J.nil ?_
      refine C.seq ?_
      refine C.region ?_
      refine J.fld (k := 1) rfl rfl rfl rfl rfl Tryd.runUnderlying39 rfl rfl Tryd.sizeOf37 ?_
      refine J.ldo 5 rfl rfl rfl rfl rfl Tryd.isAgg37 rfl rfl ?_
      refine J.ldo 11 rfl rfl rfl rfl rfl Tryd.isAgg3 rfl rfl ?_
      refine J.move rfl rfl rfl rfl rfl ?_
      refine J.bld (pl := #[(0, 1), (1, 1)]) (cells := #[_, _]) rfl rfl rfl rfl rfl Tryd.zeroValue105 Tryd.runUnderlying105 (fun w => by kernel_rfl) rfl ?_
      refine J.blds (vs := [_]) (cells := [_, _]) rfl rfl rfl rfl rfl Tryd.zeroValue105 Tryd.runUnderlying37 Tryd.sizeOf105 rfl rfl rfl rfl (fun b24 => ?_)
      refine J.app 9 rfl rfl rfl rfl rfl rfl Tryd.underlying37 inf105 rfl rfl rfl rfl (news := [vi (s + i), .slice (some ⟨b15, 0, none⟩) 64 64]) rfl (fun w' h hn => srcO h 0 rfl) rfl (by omega) (fun v25 => ?_)
      refine J.fact (fun w h => row_form (h.get 9 rfl)) ?_
      rintro ⟨A25, c25, rfl, -, -⟩
      refine J.fld (k := 1) rfl rfl rfl rfl rfl Tryd.runUnderlying39 rfl rfl Tryd.sizeOf37 ?_
      refine J.st1 6 rfl rfl rfl rfl rfl rfl Tryd.sizeOf37 (by first | rfl | assumption | simp [Value.cells, Value.oneCell']) rfl rfl rfl ?_
      refine J.nil ?_
      refine C.region ?_
      refine J.ldo 12 rfl rfl rfl rfl rfl Tryd.isAgg3 rfl rfl ?_
      refine J.bin rfl rfl rfl rfl rfl rfl (fun w => ra_add (by omega)) ?_
      first | refine J.stwc 12 rfl rfl rfl rfl rfl rfl Tryd.sizeOf3 (by first | rfl | assumption | simp [Value.cells, Value.oneCell']) rfl rfl ?_ | refine J.stw 12 rfl rfl rfl rfl rfl rfl Tryd.sizeOf3 (by first | rfl | assumption | simp [Value.cells, Value.oneCell']) rfl rfl ?_
      refine J.nil ?_
      refine ⟨2, rfl, rfl, fun w' h => ⟨_, ?_, A25, c25, us ++ [.slice (some ⟨b15, 0, none⟩) 64 64], fun b => fp b ∨ (Value.slice (some ⟨b15, 0, none⟩) 64 64).ownBlock = some b, by simp [hul]; omega, rfl⟩⟩
      have g1 := (pad_row hx64 (pad_cells x _) (h.ord [1, 10, 2, 3, 4, 5, 6, 7, 8, 9, 11, 12] (by decide))).msnoc
      have g2 := g1.ord [1, 2, 3, 4, 5, 6, 7, 8, 0, 9, 10] (by decide)
      rw [putW_succ, hxe, ← List.append_assoc, wcells_snoc _ _ (by rw [hul]; simp [putW_len]), List.map_append]
      rw [show s + ((i + 1 : Nat) : Int) = s + (i : Int) + 1 by omega]
      exact g2
    · rintro e w' ⟨b, rfl, M', h1, rfl, h2⟩
      exact ⟨true, rfl, h2 w' h1⟩
  · rintro e w' ⟨hv, h⟩
    rcases h with ⟨M, hM, A2, c2, us, fp, hul, rfl⟩ | ⟨M, hM, hf⟩
    · refine ⟨hv, _, .ready, none, 0, hM, rfl, by simp, ?_⟩
      refine C.seq ?_
      refine C.region ?_
      refine J.ldw 3 rfl rfl rfl rfl rfl Tryd.isAgg39 rfl Tryd.sizeOf39 ?_
      first | refine J.stwc 8 rfl rfl rfl rfl rfl rfl Tryd.sizeOf39 (by first | rfl | assumption | simp [Value.cells, Value.oneCell']) rfl rfl ?_ | refine J.stw 8 rfl rfl rfl rfl rfl rfl Tryd.sizeOf39 (by first | rfl | assumption | simp [Value.cells, Value.oneCell']) rfl rfl ?_
      refine J.nil ?_
      refine C.ret ?_
      refine Or.inr ⟨k, 0, rfl, rfl, fin1 rfl (RV.cellw 8 rfl Tryd.isAgg39 rfl Tryd.sizeOf39) (fun w' h => ?_)⟩
      have g1 := (h.ord [6, 7, 4, 5] (by decide)).rws_of
      have hl : (dkPut d s data).cache.length = d.cache.length + (data.length + 63) / 64 := by unfold dkPut; rw [List.length_append, putW_len, hnch]
      refine (g1.ord [1, 2, 0] (by decide)).retL (List.Sublist.refl _) ⟨A1, c1, A2, c2, vs, fun b => (Value.slice A2 (d.cache.length + (data.length + 63) / 64) c2).ownBlock = some b ∨ fp b, ?_, ?_⟩
      · rw [hl]; rfl
      · rw [hl]; rfl
    · exact hf.elim
end Go.Proofs.YtiminmnmeknioaaDoor

/- slices.Backward of writes. -/
set_option linter.unusedVariables false
namespace Go.Proofs.YtiminmnmeknioaaDoor
open Go Go.RowKit

theorem RWS.at_ {fp : Nat → Prop} {w : World} {b o n c i : Nat} {xs : List Wr} {x : Wr} {u : Value} (h : RWS fp w (.slice (some ⟨b, o, none⟩) n c) xs) (hx : xs[i]? = some x) (hu : w.cell? ⟨b, o + i * 2 + 1, none⟩ = some u) : RB fp w u x.2 := by
  obtain ⟨A', c', hv, _, _, h3⟩ := h.form
  injection hv with e1 e2 e3
  subst e2 e3
  obtain ⟨b', o', e, _, hc⟩ := h3 (by have := (List.getElem?_eq_some_iff.1 hx).1; omega)
  rw [← e1] at e
  injection e with e
  injection e with e4 e5
  subst e4 e5
  obtain ⟨u', _, hu', hr⟩ := hc i x hx
  rw [hu] at hu'
  injection hu' with hu'
  subst hu'
  exact hr
theorem RBS.at_ {fp : Nat → Prop} {w : World} {b o n c i : Nat} {xs : List (List UInt8)} {x : List UInt8} {u : Value} (h : RBS fp w (.slice (some ⟨b, o, none⟩) n c) xs) (hx : xs[i]? = some x) (hu : w.cell? ⟨b, o + i, none⟩ = some u) : RB fp w u x := by
  obtain ⟨A', c', hv, _, _, h3⟩ := h.form
  injection hv with e1 e2 e3
  subst e2 e3
  obtain ⟨b', o', e, _, hc⟩ := h3 (by have := (List.getElem?_eq_some_iff.1 hx).1; omega)
  rw [← e1] at e
  injection e with e
  injection e with e4 e5
  subst e4 e5
  obtain ⟨u', hu', hr⟩ := hc i x hx
  rw [hu] at hu'
  injection hu' with hu'
  subst hu'
  exact hr
/-- A part of what was handed in, told by whoever knows that. -/
theorem RB.base {w0 w : World} (hb : Below w0.heap.size w0 w) {v : Value} {x : List UInt8} (h : RB (Old w0) w v x) : BA w0 v x := RB.imp h (fun _ h => h) (fun b hb' => (hb.block b hb').symm)
theorem RetV.mono {w w' : World} {e : Ending} {Φ Ψ : Value → Prop} (h : RetV w Φ e w') (hi : ∀ v, Φ v → Ψ v) : RetV w Ψ e w' := by
  obtain ⟨v, h1, h2, h3⟩ := h
  exact ⟨v, h1, h2, hi v h3⟩
theorem Backward_calls (w : World) (A : Option Addr) (n c : Nat) : Calls Tryd.prog 63 #[.slice A n c] w (RetL No w (fun u Rs => ∃ ba, u = .func (.func 81) #[] #[.pointer (some ⟨ba, 0, none⟩)] ∧ Rs = [blk ba #[.slice A n c] 37])) := by
  refine calls_of_C Tryd.func63 rfl Tryd.ntmps63 (Nat.le_of_ble_eq_true rfl) ?_
  refine C.less (L' := [(0, _)]) ?_ (Sub.cons rfl (Sub.nil _)) (fun w h => h)
  refine C.seq ?_
  refine C.region ?_
  first | refine J.boxc rfl rfl rfl rfl rfl rfl (fun b1 => ?_) | refine J.box rfl rfl rfl rfl rfl (fun b1 => ?_)
  refine J.asg rfl rfl rfl rfl rfl ?_
  refine J.nil ?_
  refine C.seq ?_
  refine C.region ?_
  refine J.mkfn2 rfl rfl rfl rfl rfl rfl ?_
  refine J.asg rfl rfl rfl rfl rfl ?_
  refine J.nil ?_
  refine C.ret ?_
  exact fin1 rfl (RV.tmp rfl) (fun w' h => h.retL (List.Sublist.refl _) ⟨_, rfl, rfl⟩)
theorem back_it {w0 w : World} (l ba : Nat) (rec : Loop) (A : Option Addr) (N c : Nat) (xs : List Wr) (hx : WSA w0 (.slice A N c) xs) (Inv : Nat → List Res → Prop) (Stop : List Res → Prop) (kr ka : Nat)
    (hpos : ∀ i M, Inv i M → M[kr]? = some (obj l (lp .ready none rec)) ∧ M[ka]? = some (blk ba #[.slice A N c] 37)) (hp : rec.params.size = 2)
    (hround : ∀ j i M u x (w : World), N = i + 1 + j → Inv j M → xs[i]? = some x → (∀ fp, RWS fp w0 (.slice A N c) xs → RB fp w0 u x.2) → St No w0 M w → RoundIn (FW none) 0 Tryd.prog l rec.fn (rtmps rec [vi (i : Int), .agg #[vi x.1, u]]) rec.assign rec.body w (fun e w' => ∃ b, e = .returned (.bool b) ∧ ∃ M', St No w0 M' w' ∧ (if b then Inv (j + 1) M' else Stop M')))
    {M0 : List Res} (h0 : Inv 0 M0) (hst : St No w0 M0 w) :
    Calls Tryd.prog 81 #[yld l, .pointer (some ⟨ba, 0, none⟩)] w (fun e w' => (∃ v, e = .returned v) ∧ ((∃ M, St No w0 M w' ∧ Inv N M) ∨ ∃ M, St No w0 M w' ∧ Stop M)) := by
  obtain ⟨A', c', hv, h1, h2, h3⟩ := hx.form
  injection hv with e1 e2 e3
  subst e1 e2 e3
  obtain ⟨p1, p2⟩ := hpos 0 M0 h0
  refine calls_of_Cg (mu := No) (M0 := M0) Tryd.func81 rfl Tryd.ntmps81 (Nat.le_of_ble_eq_true rfl) hst ?_
  refine C.less (L' := [(0, _), (1, _)]) ?_ (Sub.cons rfl (Sub.cons rfl (Sub.nil _))) (fun w h => h)
  refine C.seq ?_
  refine C.region ?_
  refine J.ld rfl rfl rfl rfl rfl Tryd.isAgg37 (fun w h => cellO h ka p2 rfl) ?_
  refine J.len rfl rfl rfl rfl rfl Tryd.runUnderlying37 ?_
  refine J.bin rfl rfl rfl rfl rfl rfl (fun w => ra_sub (by omega)) ?_
  refine J.asg rfl rfl rfl rfl rfl ?_
  refine J.nil ?_
  refine C.block ?_
  refine C.loop (σ := Nat × List Res) (fun s => Inv s.1 s.2 ∧ s.1 ≤ xs.length) (fun s => [(0, yld l), (1, .pointer (some ⟨ba, 0, none⟩)), (3, vi ((xs.length : Int) - 1 - (s.1 : Int)))]) (fun s => s.2) (fun s => xs.length - s.1) (0, M0) ⟨h0, Nat.zero_le _⟩ ?_ ?_ ?_
  · exact (Sub.cons rfl (Sub.cons rfl (Sub.cons (by dsimp only; rw [show (xs.length : Int) - 1 - ((0 : Nat) : Int) = (xs.length : Int) - 1 by omega]; rfl) (Sub.nil _))))
  · exact fun w h => h
  rintro ⟨j, M⟩ ⟨hj, hjN⟩
  dsimp only at hj hjN ⊢
  obtain ⟨q1, q2⟩ := hpos j M hj
  refine C.seq ?_
  refine C.seq ?_
  refine C.region ?_
  refine J.move rfl rfl rfl rfl rfl ?_
  refine J.bin rfl rfl rfl rfl rfl rfl (fun w => rfl) ?_
  refine J.nil ?_
  refine C.cond rfl (fun h => ?_) (fun h => ?_)
  · have hlt : j < xs.length := by have := of_decide_eq_true h; omega
    obtain ⟨i, hi⟩ : ∃ i, xs.length = i + 1 + j := ⟨xs.length - 1 - j, by omega⟩
    rw [show (xs.length : Int) - 1 - (j : Int) = (i : Int) by omega]
    obtain ⟨x, hxi⟩ : ∃ x, xs[i]? = some x := ⟨_, List.getElem?_eq_getElem (by omega)⟩
    obtain ⟨b, o, rfl, hb, hcell⟩ := h3 (by omega)
    obtain ⟨u, hu0, hu1, hr⟩ := hcell i x hxi
    refine C.skip ?_
    refine C.seq ?_
    refine C.block ?_
    refine C.seq ?_
    refine C.region ?_
    refine J.move rfl rfl rfl rfl rfl ?_
    refine J.move rfl rfl rfl rfl rfl ?_
    refine J.ld rfl rfl rfl rfl rfl Tryd.isAgg37 (fun w h => cellO h ka q2 rfl) ?_
    refine J.move rfl rfl rfl rfl rfl ?_
    first | refine J.idxn rfl rfl rfl rfl rfl rfl Tryd.runUnderlying37 Tryd.sizeOf105 (by omega) ?_ | refine J.idx rfl rfl rfl rfl rfl rfl Tryd.runUnderlying37 Tryd.sizeOf105 (by omega) ?_
    refine J.ldn (cs := [_, _]) rfl rfl rfl rfl rfl Tryd.isAgg105 Tryd.sizeOf105 (fun w h => cells2 (cellOld h hu0) (cellOld h hu1)) ?_
    refine J.yield kr (vs := [_, _]) (Φ := fun b M' => if b then Inv (j + 1) M' else Stop M') rfl rfl rfl rfl rfl rfl q1 (by rw [hp]; rfl) (fun w h => hround j i M u x w hi hj hxi (fun fp hf => hf.at_ hxi hu1) h) ?_
    rintro b M' hb
    cases b
    · refine J.not rfl rfl rfl rfl rfl ?_
      refine J.nil ?_
      refine C.cond_t rfl ?_
      refine C.ret ?_
      exact fin0 rfl (fun w' h => ⟨⟨_, rfl⟩, .inr ⟨M', h, hb⟩⟩)
    · refine J.not rfl rfl rfl rfl rfl ?_
      refine J.nil ?_
      refine C.cond_f rfl ?_
      refine C.skip ?_
      refine C.region ?_
      refine J.move rfl rfl rfl rfl rfl ?_
      refine J.bin rfl rfl rfl rfl rfl rfl (fun w => ra_sub (by omega)) ?_
      refine J.asg rfl rfl rfl rfl rfl ?_
      refine J.nil ?_
      exact ⟨rfl, (j + 1, M'), ⟨hb, hlt⟩, by dsimp only; omega, (Sub.cons rfl (Sub.cons rfl (Sub.cons (by dsimp only; rw [show (xs.length : Int) - 1 - ((j + 1 : Nat) : Int) = (i : Int) - 1 by omega]; rfl) (Sub.nil _)))), fun w h => h⟩
  · have hge : j = xs.length := by have := of_decide_eq_false h; omega
    subst hge
    refine C.exit rfl ?_
    exact fin0 rfl (fun w' h => ⟨⟨_, rfl⟩, .inl ⟨M, h, hj⟩⟩)
end Go.Proofs.YtiminmnmeknioaaDoor

/- State.last. -/
set_option linter.unusedVariables false
namespace Go.Proofs.YtiminmnmeknioaaDoor
open Go Go.RowKit

/-- What was put last. -/
def lastW (s : Int) (xs : List Wr) : Option (List UInt8) := (xs.reverse.find? (fun x => x.1 == s)).map (·.2)
theorem lastW_snoc (s : Int) (xs : List Wr) (x : Wr) : lastW s (xs ++ [x]) = if x.1 = s then some x.2 else lastW s xs := by
  unfold lastW
  rw [List.reverse_append, List.reverse_singleton, List.singleton_append, List.find?_cons]
  by_cases h : x.1 = s
  · simp [h]
  · rw [show (x.1 == s) = false by simpa using h, if_neg h]
theorem lastW_nil (s : Int) : lastW s [] = none := rfl
def dkLast (d : Dk) (s : Int) : List UInt8 := (lastW s d.cache).getD (d.secs.getD s.toNat [])
theorem lastW_len {d : Dk} {s : Int} (hc : ∀ x ∈ d.cache, x.2.length = 64) {y : List UInt8} (h : lastW s d.cache = some y) : y.length = 64 := by
  unfold lastW at h
  obtain ⟨x, hx, rfl⟩ := Option.map_eq_some_iff.1 h
  exact hc x (List.mem_reverse.1 (List.mem_of_find?_eq_some hx))
theorem dkLast_len {d : Dk} {s : Int} (h : dkBad d = false) (h0 : 0 ≤ s) (h1 : s < d.secs.length) : (dkLast d s).length = 64 := by
  obtain ⟨_, _, hs, hc⟩ := dkOk h
  unfold dkLast
  cases e : lastW s d.cache with
  | some y => exact lastW_len (fun x hx => (hc x hx).2.2) e
  | none =>
    have hlt : s.toNat < d.secs.length := by omega
    rw [Option.getD_none, List.getD_eq_getElem?_getD, List.getElem?_eq_getElem hlt]
    exact hs _ (List.getElem_mem _)
theorem take_snoc {α : Type} {xs : List α} {i : Nat} {x : α} (h : xs[i]? = some x) : xs.take (i + 1) = xs.take i ++ [x] := by rw [List.take_add_one, h]; rfl
theorem last_calls (w : World) (d : Dk) (sv cv : Value) (s : Int) (hs : BSA w sv d.secs) (hc : WSA w cv d.cache) (h0 : 0 ≤ s) (hsn : s < d.secs.length) : Calls Tryd.prog 43 #[.agg #[sv, cv], vi s] w (RetV w (fun v => ∀ fp, RBS fp w sv d.secs → RWS fp w cv d.cache → RB fp w v (dkLast d s))) := by
  obtain ⟨As, cs, rfl, hl1, hl2, hl3⟩ := hs.form
  obtain ⟨Ac, cc, rfl, -, -, -⟩ := hc.form
  refine calls_of_CM (mu := No) (M0 := []) Tryd.func43 rfl Tryd.ntmps43 (Nat.le_of_ble_eq_true rfl) (St.init w) ?_
  refine C.less (L' := [(0, _), (1, _)]) ?_ (Sub.cons rfl (Sub.cons rfl (Sub.nil _))) (fun w h => h)
  refine C.seq ?_
  refine C.region ?_
  first | refine J.boxc rfl rfl rfl rfl rfl rfl (fun b2 => ?_) | refine J.box rfl rfl rfl rfl rfl (fun b2 => ?_)
  first | refine J.boxc rfl rfl rfl rfl rfl rfl (fun b3 => ?_) | refine J.box rfl rfl rfl rfl rfl (fun b3 => ?_)
  refine J.allocc rfl rfl rfl rfl Tryd.zeroValue22 rfl (fun b4 => ?_)
  refine J.nil ?_
  refine C.seq ?_
  refine C.seq ?_
  refine C.region ?_
  refine J.fld (k := 1) rfl rfl rfl rfl rfl Tryd.runUnderlying39 rfl rfl Tryd.sizeOf37 ?_
  refine J.ldo 2 rfl rfl rfl rfl rfl Tryd.isAgg37 rfl rfl ?_
  refine J.callrl rfl rfl rfl rfl rfl Tryd.call63 (fun w h => Backward_calls w Ac d.cache.length cc)  ?_
  rintro v9 R9 ⟨ba, rfl, rfl⟩
  refine J.nil ?_
  refine C.block ?_
  refine C.rangeFunc rfl rfl Tryd.call81 ?_
  intro k l r hps has hbd hhas w1 hst
  refine (back_it l ba r Ac d.cache.length cc d.cache hc (fun j M => lastW s d.cache = lastW s (d.cache.take (d.cache.length - j)) ∧ M = [obj l (lp .ready none r), obj k (.deferred (some [])), blk ba #[.slice Ac d.cache.length cc] 37, blk b4 #[.slice none 0 0] 22, blk b3 #[vi s] 3, blk b2 #[.slice As d.secs.length cs, .slice Ac d.cache.length cc] 39]) (fun M => ∃ x A n c, lastW s d.cache = some x ∧ (∀ fp, RWS fp w (.slice Ac d.cache.length cc) d.cache → RB fp w (.slice A n c) x) ∧ M = [obj l (lp .done (some .ret) r), obj k (.deferred (some [])), blk b4 #[.slice A n c] 22]) 0 2 ?_ (by rw [hps]; rfl) ?_ (M0 := [obj l (lp .ready none r), obj k (.deferred (some [])), blk ba #[.slice Ac d.cache.length cc] 37, blk b4 #[.slice none 0 0] 22, blk b3 #[vi s] 3, blk b2 #[.slice As d.secs.length cs, .slice Ac d.cache.length cc] 39]) ⟨by simp, rfl⟩ (hst.ord [0, 1, 2, 3, 4, 5] (by decide))).mono ?_
  · rintro i M ⟨-, rfl⟩
    exact ⟨rfl, rfl⟩
  · rintro j i M u x w2 hij ⟨hpre, rfl⟩ hxi hr hw2
    obtain ⟨Au, cu, rfl, -, -, -⟩ := (hr _ hc).form
    refine (round_C (n := 0) (Φ := fun b M' => ∀ w', St No w M' w' → ∃ M'', St No w M'' w' ∧ if b then lastW s d.cache = lastW s (d.cache.take (d.cache.length - (j + 1))) ∧ M'' = [obj l (lp .ready none r), obj k (.deferred (some [])), blk ba #[.slice Ac d.cache.length cc] 37, blk b4 #[.slice none 0 0] 22, blk b3 #[vi s] 3, blk b2 #[.slice As d.secs.length cs, .slice Ac d.cache.length cc] 39] else ∃ x A n c, lastW s d.cache = some x ∧ (∀ fp, RWS fp w (.slice Ac d.cache.length cc) d.cache → RB fp w (.slice A n c) x) ∧ M'' = [obj l (lp .done (some .ret) r), obj k (.deferred (some [])), blk b4 #[.slice A n c] 22]) [] hw2 (hhas.round2 hps rfl rfl) ?_).mono ?_
    · rw [has]
      refine C.region ?_
      refine J.allocc rfl rfl rfl rfl Tryd.zeroValue105 rfl (fun b6 => ?_)
      first | refine J.stwc 0 rfl rfl rfl rfl rfl rfl Tryd.sizeOf105 (by first | rfl | assumption | simp [Value.cells, Value.oneCell']) rfl rfl ?_ | refine J.stw 0 rfl rfl rfl rfl rfl rfl Tryd.sizeOf105 (by first | rfl | assumption | simp [Value.cells, Value.oneCell']) rfl rfl ?_
      refine J.nil ?_
      refine ⟨1, rfl, ?_⟩
      rw [hbd]
      refine C.block ?_
      refine C.seq ?_
      refine C.region ?_
      refine J.fld (k := 0) rfl rfl rfl rfl rfl Tryd.runUnderlying105 rfl rfl Tryd.sizeOf3 ?_
      refine J.ldo 0 rfl rfl rfl rfl rfl Tryd.isAgg3 rfl rfl ?_
      refine J.ldo 5 rfl rfl rfl rfl rfl Tryd.isAgg3 rfl rfl ?_
      refine J.bin rfl rfl rfl rfl rfl rfl (fun w => rfl) ?_
      refine J.nil ?_
      have hsn := take_snoc hxi
      refine C.cond rfl (fun h => ?_) (fun h => ?_)
      · have h : x.1 = s := by simpa using h
        refine C.seq ?_
        refine C.region ?_
        refine J.fld (k := 1) rfl rfl rfl rfl rfl Tryd.runUnderlying105 rfl rfl Tryd.sizeOf22 ?_
        refine J.ldo 0 rfl rfl rfl rfl rfl Tryd.isAgg22 rfl rfl ?_
        first | refine J.stwc 4 rfl rfl rfl rfl rfl rfl Tryd.sizeOf22 (by first | rfl | assumption | simp [Value.cells, Value.oneCell']) rfl rfl ?_ | refine J.stw 4 rfl rfl rfl rfl rfl rfl Tryd.sizeOf22 (by first | rfl | assumption | simp [Value.cells, Value.oneCell']) rfl rfl ?_
        refine J.nil ?_
        refine C.ret ?_
        refine ⟨1, rfl, fun w' h' => ⟨_, h'.ord [1, 2, 4] (by decide), x.2, Au, x.2.length, cu, ?_, hr, rfl⟩⟩
        rw [hpre, show d.cache.length - j = i + 1 by omega, hsn, lastW_snoc, if_pos h]
      · have h : ¬ x.1 = s := by simpa using h
        refine C.skip ?_
        refine ⟨1, rfl, fun w' h' => ⟨_, h'.ord [1, 2, 3, 4, 5, 6] (by decide), ?_, rfl⟩⟩
        rw [hpre, show d.cache.length - j = i + 1 by omega, show d.cache.length - (j + 1) = i by omega, hsn, lastW_snoc, if_neg h]
    · rintro e w' ⟨b, rfl, M', h1, h2⟩
      exact ⟨b, rfl, h2 w' h1⟩
  · rintro e w' ⟨hv, h⟩
    rcases h with ⟨M, hM, hpre, rfl⟩ | ⟨M, hM, x, A, n, c, hx, hr, rfl⟩
    · refine ⟨hv, _, .ready, none, 0, hM, rfl, by simp, ?_⟩
      rw [Nat.sub_self, List.take_zero, lastW_nil] at hpre
      have hlt : s.toNat < d.secs.length := by omega
      obtain ⟨b, o, rfl, hb, hcell⟩ := hl3 (by omega)
      obtain ⟨u, hu, hr⟩ := hcell s.toNat _ (List.getElem?_eq_getElem hlt)
      have he : dkLast d s = d.secs[s.toNat] := by unfold dkLast; rw [hpre, Option.getD_none, List.getD_eq_getElem?_getD, List.getElem?_eq_getElem hlt]; rfl
      obtain ⟨Au, cu, rfl, -, -, -⟩ := hr.form
      refine C.seq ?_
      refine C.region ?_
      refine J.fld (k := 0) rfl rfl rfl rfl rfl Tryd.runUnderlying39 rfl rfl Tryd.sizeOf36 ?_
      refine J.ldo 4 rfl rfl rfl rfl rfl Tryd.isAgg36 rfl rfl ?_
      refine J.ldo 3 rfl rfl rfl rfl rfl Tryd.isAgg3 rfl rfl ?_
      first | refine J.idx1 rfl rfl rfl rfl rfl rfl Tryd.runUnderlying36 Tryd.sizeOf22 (by omega) ?_ | refine J.idx rfl rfl rfl rfl rfl rfl Tryd.runUnderlying36 Tryd.sizeOf22 (by omega) ?_
      refine J.ld rfl rfl rfl rfl rfl Tryd.isAgg22 (fun w h => cellOld h (by rw [Nat.mul_one]; exact hu)) ?_
      first | refine J.stwc 2 rfl rfl rfl rfl rfl rfl Tryd.sizeOf22 (by first | rfl | assumption | simp [Value.cells, Value.oneCell']) rfl rfl ?_ | refine J.stw 2 rfl rfl rfl rfl rfl rfl Tryd.sizeOf22 (by first | rfl | assumption | simp [Value.cells, Value.oneCell']) rfl rfl ?_
      refine J.nil ?_
      refine C.ret ?_
      exact Or.inr ⟨k, 0, rfl, rfl, fin1 rfl (RV.cell1 2 rfl Tryd.isAgg22 rfl rfl) (fun w' h => h.retV (fun fp f1 f2 => by rw [he]; exact f1.at_ (List.getElem?_eq_getElem hlt) hu))⟩
    · refine ⟨hv, _, .done, some .ret, 0, hM, rfl, by simp, ?_⟩
      exact Or.inr ⟨k, 0, rfl, rfl, fin1 rfl (RV.cell1 1 rfl Tryd.isAgg22 rfl rfl) (fun w' h => h.retV (fun fp f1 f2 => by rw [show dkLast d s = x by unfold dkLast; rw [hx]; rfl]; exact hr fp f2))⟩
/-- The same, told in the words of a world that came before. -/
theorem last_base {w0 w : World} {M : List Res} (h : St No w0 M w) (d : Dk) (sv cv : Value) (s : Int) (hs : BSA w0 sv d.secs) (hc : WSA w0 cv d.cache) (h0 : 0 ≤ s) (hsn : s < d.secs.length) : Calls Tryd.prog 43 #[.agg #[sv, cv], vi s] w (RetV w (fun v => BA w0 v (dkLast d s))) :=
  (last_calls w d sv cv s (h.bsa hs) (h.wsa hc) h0 hsn).mono fun _ _ hR => hR.mono fun v hv => RB.base h.below (hv _ (RBS.imp hs (fun _ h => h) (fun b hb => h.below.block b hb)) (RWS.imp hc (fun _ h => h) (fun b hb => h.below.block b hb)))
end Go.Proofs.YtiminmnmeknioaaDoor

/- disk.GetAll. -/
set_option linter.unusedVariables false
namespace Go.Proofs.YtiminmnmeknioaaDoor
open Go Go.RowKit

def lasts (d : Dk) (s : Int) (n : Nat) : List UInt8 := (List.range n).flatMap fun (i : Nat) => dkLast d (s + (i : Int))
theorem lasts_succ (d : Dk) (s : Int) (n : Nat) : lasts d s (n + 1) = lasts d s n ++ dkLast d (s + n) := by unfold lasts; rw [List.range_succ, List.flatMap_append]; simp
theorem lasts_len {d : Dk} {s : Int} (h : dkBad d = false) (h0 : 0 ≤ s) : ∀ n : Nat, s + n ≤ d.secs.length → (lasts d s n).length = 64 * n := by
  intro n
  induction n with
  | zero => intro _; rfl
  | succ n ih =>
    intro hn
    rw [lasts_succ, List.length_append, ih (by omega), dkLast_len h (by omega) (by omega)]
    omega
def dkGetAll (d : Dk) (s n : Int) : List UInt8 × Int := if dkBad d = true then ([], 9) else if roomOk d.secs.length s n = false then ([], 41) else (lasts d s n.toNat, 0)
theorem dkErr_cases (d : Dk) : (dkBad d = true ∧ dkErr d = 9) ∨ (dkBad d = false ∧ dkErr d = 0) := by
  unfold dkErr
  cases h : dkBad d
  · exact .inr ⟨rfl, rfl⟩
  · exact .inl ⟨rfl, rfl⟩
theorem GetAll_calls (w : World) (d : Dk) (sv cv : Value) (s n : Int) (hs : BSA w sv d.secs) (hc : WSA w cv d.cache) : Calls Tryd.prog 24 #[.agg #[sv, cv], vi s, vi n] w (Ret w (PBE (dkGetAll d s n).1 (dkGetAll d s n).2)) := by
  have hs0 := hs
  have hc0 := hc
  obtain ⟨As, cs, rfl, hl1, hl2, -⟩ := hs.form
  obtain ⟨Ac, cc, rfl, -, -, -⟩ := hc.form
  refine calls_of_C Tryd.func24 rfl Tryd.ntmps24 (Nat.le_of_ble_eq_true rfl) ?_
  refine C.less (L' := [(0, _), (1, _), (2, _)]) ?_ (Sub.cons rfl (Sub.cons rfl (Sub.cons rfl (Sub.nil _)))) (fun w h => h)
  refine C.seq ?_
  refine C.region ?_
  first | refine J.boxc rfl rfl rfl rfl rfl rfl (fun b3 => ?_) | refine J.box rfl rfl rfl rfl rfl (fun b3 => ?_)
  refine J.asg rfl rfl rfl rfl rfl ?_
  refine J.asg rfl rfl rfl rfl rfl ?_
  refine J.nil ?_
  refine C.seq ?_
  refine C.seq ?_
  refine C.region ?_
  refine J.ldw 0 rfl rfl rfl rfl rfl Tryd.isAgg39 rfl Tryd.sizeOf39 ?_
  refine J.call0 rfl rfl rfl rfl rfl Tryd.call38 (fun w h => Check_dk_calls w d _ _ (h.bsa hs0) (h.wsa hc0)) ?_
  refine J.asg rfl rfl rfl rfl rfl ?_
  refine J.nil ?_
  refine C.seq ?_
  refine C.region ?_
  refine J.move rfl rfl rfl rfl rfl ?_
  refine J.bin rfl rfl rfl rfl rfl rfl (fun w => rfl) ?_
  refine J.nil ?_
  rcases dkErr_cases d with ⟨hb, he⟩ | ⟨hb, he⟩
  · rw [show dkGetAll d s n = ([], 9) by unfold dkGetAll; rw [if_pos hb], he]
    refine C.cond_t rfl ?_
    refine C.seq ?_
    refine C.region ?_
    refine J.move rfl rfl rfl rfl rfl ?_
    refine J.asg rfl rfl rfl rfl rfl ?_
    refine J.asg rfl rfl rfl rfl rfl ?_
    refine J.nil ?_
    refine C.ret ?_
    exact fin2 rfl (RV.tmp rfl) (RV.tmp rfl) (fun w' h => retNilBE h)
  · obtain ⟨⟨hs1, hs2⟩, hc1, hsl, hcl⟩ := dkOk hb
    rw [he]
    refine C.cond_f rfl ?_
    refine C.skip ?_
    refine C.seq ?_
    refine C.seq ?_
    refine C.region ?_
    refine J.ldw 0 rfl rfl rfl rfl rfl Tryd.isAgg39 rfl Tryd.sizeOf39 ?_
    refine J.move rfl rfl rfl rfl rfl ?_
    refine J.move rfl rfl rfl rfl rfl ?_
    refine J.call0 rfl rfl rfl rfl rfl Tryd.call39 (fun w h => room_calls w As d.secs.length cs _ s n (by omega)) ?_
    refine J.not rfl rfl rfl rfl rfl ?_
    refine J.nil ?_
    rcases Bool.eq_false_or_eq_true (roomOk d.secs.length s n) with hr | hr
    · rw [show dkGetAll d s n = (lasts d s n.toNat, 0) by unfold dkGetAll; rw [if_neg (by rw [hb]; simp), if_neg (by rw [hr]; simp)], hr]
      have hr2 := of_decide_eq_true hr
      obtain ⟨r1, r2, r3, r4⟩ := hr2
      refine C.cond_f rfl ?_
      refine C.skip ?_
      refine C.seq ?_
      refine C.region ?_
      refine J.asg rfl rfl rfl rfl rfl ?_
      refine J.nil ?_
      refine C.seq ?_
      refine C.seq ?_
      refine C.region ?_
      refine J.move rfl rfl rfl rfl rfl ?_
      refine J.move rfl rfl rfl rfl rfl ?_
      refine J.nil ?_
      refine C.block ?_
      refine C.loop (σ := Nat × Value) (fun q => (q.1 : Int) ≤ n) (fun q => [(3, .pointer (some ⟨b3, 0, none⟩)), (1, vi s), (9, q.2), (21, vi n), (22, vi (q.1 : Int))]) (fun q => [rowR 5 1 q.2 (64 * q.1) ((lasts d s q.1).map vu8), blk b3 #[.slice As d.secs.length cs, .slice Ac d.cache.length cc] 39]) (fun q => n.toNat - q.1) (0, .slice none 0 0) r2 ?_ ?_ ?_
      · exact (Sub.cons rfl (Sub.cons rfl (Sub.cons rfl (Sub.cons rfl (Sub.cons rfl (Sub.nil _))))))
      · exact fun w h => h.nilRow _ _
      rintro ⟨i, v⟩ hi
      dsimp only at hi ⊢
      refine C.seq ?_
      refine C.region ?_
      refine J.bin rfl rfl rfl rfl rfl rfl (fun w => rfl) ?_
      refine J.nil ?_
      refine C.seq ?_
      refine C.cond rfl (fun h => ?_) (fun h => ?_)
      · have hlt : (i : Int) < n := of_decide_eq_true h
        have hl64 : (dkLast d (s + i)).length = 64 := dkLast_len hb (by omega) (by omega)
        refine C.skip ?_
        refine C.seq ?_
        refine C.block ?_
        refine C.seq ?_
        refine C.region ?_
        refine J.move rfl rfl rfl rfl rfl ?_
        refine J.asg rfl rfl rfl rfl rfl ?_
        refine J.nil ?_
        refine C.region ?_
        refine J.move rfl rfl rfl rfl rfl ?_
        refine J.ldw 1 rfl rfl rfl rfl rfl Tryd.isAgg39 rfl Tryd.sizeOf39 ?_
        refine J.move rfl rfl rfl rfl rfl ?_
        refine J.move rfl rfl rfl rfl rfl ?_
        refine J.bin rfl rfl rfl rfl rfl rfl (fun w => ra_add (by omega)) ?_
        refine J.callv rfl rfl rfl rfl rfl Tryd.call43 (fun w h => last_base h d _ _ (s + i) hs0 hc0 (by omega) (by omega))  ?_
        rintro v30 hv
        obtain ⟨Av, cv', rfl, -, -, -⟩ := hv.form
        refine J.app 0 rfl rfl rfl rfl rfl rfl Tryd.underlying22 inf5 rfl rfl rfl rfl (news := (dkLast d (s + i)).map vu8) (by simp) (fun w' h hn => srcB (h.ba hv) hn) (all_u8 _) (by omega) (fun v31 => ?_)
        refine J.asg rfl rfl rfl rfl rfl ?_
        refine J.nil ?_
        refine C.region ?_
        refine J.bin rfl rfl rfl rfl rfl rfl (fun w => ra_add (by omega)) ?_
        refine J.move rfl rfl rfl rfl rfl ?_
        refine J.nil ?_
        refine ⟨rfl, (i + 1, v31), by dsimp only; omega, by dsimp only; omega, (Sub.cons rfl (Sub.cons rfl (Sub.cons rfl (Sub.cons rfl (Sub.cons rfl (Sub.nil _)))))), fun w h => ?_⟩
        dsimp only
        rw [lasts_succ, List.map_append, show 64 * (i + 1) = 64 * i + (dkLast d (s + i)).length by omega]
        exact h
      · have hin : n.toNat = i := by have := of_decide_eq_false h; omega
        rw [hin]
        refine C.exit rfl ?_
        refine C.seq ?_
        refine C.region ?_
        refine J.move rfl rfl rfl rfl rfl ?_
        refine J.asg rfl rfl rfl rfl rfl ?_
        refine J.asg rfl rfl rfl rfl rfl ?_
        refine J.nil ?_
        refine C.ret ?_
        refine fin2 rfl (RV.tmp rfl) (RV.tmp rfl) (fun w' h => ?_)
        exact retRbE (row_rb h rfl) 0 rfl
    · rw [show dkGetAll d s n = ([], 41) by unfold dkGetAll; rw [if_neg (by rw [hb]; simp), if_pos hr], hr]
      refine C.cond_t rfl ?_
      refine C.seq ?_
      refine C.region ?_
      refine J.asg rfl rfl rfl rfl rfl ?_
      refine J.asg rfl rfl rfl rfl rfl ?_
      refine J.nil ?_
      refine C.ret ?_
      exact fin2 rfl (RV.tmp rfl) (RV.tmp rfl) (fun w' h => retNilBE h)
end Go.Proofs.YtiminmnmeknioaaDoor

/- disk.PutAll. -/
set_option linter.unusedVariables false
namespace Go.Proofs.YtiminmnmeknioaaDoor
open Go Go.RowKit

def dk0 : Dk := ⟨[], []⟩
def dkPutAll (d : Dk) (s : Int) (data : List UInt8) : Dk × Int := if dkBad d = true then (dk0, 9) else if roomOk d.secs.length s (nch data) = false then (dk0, 41) else if (nch data : Int) > 4096 - d.cache.length then (dk0, 51) else (dkPut d s data, 0)
theorem PDk_of {d : Dk} {v : Value} {Rs : List Res} (h : PSt d v Rs) (e : Int) : PDk d e (.tuple #[v, vi e]) Rs := by
  obtain ⟨A1, c1, A2, c2, vs, fp, rfl, rfl⟩ := h
  exact ⟨A1, c1, A2, c2, vs, fp, rfl, rfl⟩
theorem quo64 {P : Program} {w : World} {t : TypeId} (n : Nat) (h : n + 63 ≤ 9223372036854775807) : (binOp .quo t (.int .i64 ((n : Int) + 64 - 1)) (.int .i64 64)).run P w = .ok (.int .i64 (((n + 63) / 64 : Nat) : Int)) w := by
  show Result.ok (Value.int .i64 (IntKind.i64.wrap (((n : Int) + 64 - 1).tdiv 64))) w = _
  rw [Int.tdiv_eq_ediv_of_nonneg (by omega), IntWalk.i64_in _ (by omega)]
  congr 2
  omega
theorem PutAll_calls (w : World) (d : Dk) (sv cv dv : Value) (s : Int) (data : List UInt8) (hs : BSA w sv d.secs) (hc : WSA w cv d.cache) (hx : BA w dv data) (hl : data.length ≤ 140737488355328) : Calls Tryd.prog 22 #[.agg #[sv, cv], vi s, dv] w (RetL No w (PDk (dkPutAll d s data).1 (dkPutAll d s data).2)) := by
  have hs0 := hs
  have hc0 := hc
  have hx0 := hx
  obtain ⟨As, cs, rfl, hl1, hl2, -⟩ := hs.form
  obtain ⟨Ac, cc, rfl, -, -, -⟩ := hc.form
  obtain ⟨A, c, rfl, -, -, -⟩ := hx.form
  have hnc : nch data = (data.length + 63) / 64 := rfl
  refine calls_of_C Tryd.func22 rfl Tryd.ntmps22 (Nat.le_of_ble_eq_true rfl) ?_
  refine C.less (L' := [(0, _), (1, _), (2, _)]) ?_ (Sub.cons rfl (Sub.cons rfl (Sub.cons rfl (Sub.nil _)))) (fun w h => h)
  refine C.seq ?_
  refine C.region ?_
  first | refine J.boxc rfl rfl rfl rfl rfl rfl (fun b3 => ?_) | refine J.box rfl rfl rfl rfl rfl (fun b3 => ?_)
  refine J.allocc rfl rfl rfl rfl Tryd.zeroValue39 rfl (fun b6 => ?_)
  refine J.asg rfl rfl rfl rfl rfl ?_
  refine J.nil ?_
  refine C.seq ?_
  refine C.seq ?_
  refine C.region ?_
  refine J.ldw 1 rfl rfl rfl rfl rfl Tryd.isAgg39 rfl Tryd.sizeOf39 ?_
  refine J.call0 rfl rfl rfl rfl rfl Tryd.call38 (fun w h => Check_dk_calls w d _ _ (h.bsa hs0) (h.wsa hc0)) ?_
  refine J.asg rfl rfl rfl rfl rfl ?_
  refine J.nil ?_
  refine C.seq ?_
  refine C.region ?_
  refine J.move rfl rfl rfl rfl rfl ?_
  refine J.bin rfl rfl rfl rfl rfl rfl (fun w => rfl) ?_
  refine J.nil ?_
  rcases dkErr_cases d with ⟨hb, he⟩ | ⟨hb, he⟩
  · rw [show dkPutAll d s data = (dk0, 9) by unfold dkPutAll; rw [if_pos hb], he]
    refine C.cond_t rfl ?_
    refine C.seq ?_
    refine C.region ?_
    refine J.bld (pl := #[(0, 1), (1, 1)]) (cells := #[_, _]) rfl rfl rfl rfl rfl Tryd.zeroValue39 Tryd.runUnderlying39 (fun w => by kernel_rfl) rfl ?_
    refine J.move rfl rfl rfl rfl rfl ?_
    first | refine J.stwc 0 rfl rfl rfl rfl rfl rfl Tryd.sizeOf39 (by first | rfl | assumption | simp [Value.cells, Value.oneCell']) rfl rfl ?_ | refine J.stw 0 rfl rfl rfl rfl rfl rfl Tryd.sizeOf39 (by first | rfl | assumption | simp [Value.cells, Value.oneCell']) rfl rfl ?_
    refine J.asg rfl rfl rfl rfl rfl ?_
    refine J.nil ?_
    refine C.ret ?_
    exact fin2 rfl (RV.cellw 0 rfl Tryd.isAgg39 rfl Tryd.sizeOf39) (RV.tmp rfl) (fun w' h => retDkZ h)
  · obtain ⟨⟨hs1, hs2⟩, hc1, hsl, hcl⟩ := dkOk hb
    rw [he]
    refine C.cond_f rfl ?_
    refine C.skip ?_
    refine C.seq ?_
    refine C.region ?_
    refine J.move rfl rfl rfl rfl rfl ?_
    refine J.len rfl rfl rfl rfl rfl Tryd.runUnderlying22 ?_
    refine J.bin rfl rfl rfl rfl rfl rfl (fun w => ra_add (by omega)) ?_
    refine J.bin rfl rfl rfl rfl rfl rfl (fun w => ra_sub (by omega)) ?_
    refine J.bin rfl rfl rfl rfl rfl rfl (fun w => quo64 _ (by omega)) ?_
    refine J.asg rfl rfl rfl rfl rfl ?_
    refine J.nil ?_
    refine C.seq ?_
    refine C.block ?_
    refine C.seq ?_
    refine C.region ?_
    refine J.ldw 1 rfl rfl rfl rfl rfl Tryd.isAgg39 rfl Tryd.sizeOf39 ?_
    refine J.move rfl rfl rfl rfl rfl ?_
    refine J.move rfl rfl rfl rfl rfl ?_
    refine J.call0 rfl rfl rfl rfl rfl Tryd.call39 (fun w h => room_calls w As d.secs.length cs _ s _ (by omega)) ?_
    refine J.not rfl rfl rfl rfl rfl ?_
    refine J.asg rfl rfl rfl rfl rfl ?_
    refine J.nil ?_
    rw [← hnc]
    rcases Bool.eq_false_or_eq_true (roomOk d.secs.length s (nch data)) with hr | hr
    · rw [hr]
      obtain ⟨r1, r2, r3, r4⟩ := of_decide_eq_true hr
      refine C.cond_f rfl ?_
      refine C.seq ?_
      refine C.region ?_
      refine J.move rfl rfl rfl rfl rfl ?_
      refine J.fld (k := 1) rfl rfl rfl rfl rfl Tryd.runUnderlying39 rfl rfl Tryd.sizeOf37 ?_
      refine J.ldo 1 rfl rfl rfl rfl rfl Tryd.isAgg37 rfl rfl ?_
      refine J.len rfl rfl rfl rfl rfl Tryd.runUnderlying37 ?_
      refine J.bin rfl rfl rfl rfl rfl rfl (fun w => ra_sub (by omega)) ?_
      refine J.bin rfl rfl rfl rfl rfl rfl (fun w => rfl) ?_
      refine J.asg rfl rfl rfl rfl rfl ?_
      refine J.nil ?_
      refine C.cond rfl (fun h => ?_) (fun h => ?_)
      · have h := of_decide_eq_true h
        rw [show dkPutAll d s data = (dk0, 51) by unfold dkPutAll; rw [if_neg (by rw [hb]; simp), if_neg (by rw [hr]; simp), if_pos h]]
        refine C.seq ?_
        refine C.region ?_
        refine J.bld (pl := #[(0, 1), (1, 1)]) (cells := #[_, _]) rfl rfl rfl rfl rfl Tryd.zeroValue39 Tryd.runUnderlying39 (fun w => by kernel_rfl) rfl ?_
        first | refine J.stwc 0 rfl rfl rfl rfl rfl rfl Tryd.sizeOf39 (by first | rfl | assumption | simp [Value.cells, Value.oneCell']) rfl rfl ?_ | refine J.stw 0 rfl rfl rfl rfl rfl rfl Tryd.sizeOf39 (by first | rfl | assumption | simp [Value.cells, Value.oneCell']) rfl rfl ?_
        refine J.asg rfl rfl rfl rfl rfl ?_
        refine J.nil ?_
        refine C.ret ?_
        exact fin2 rfl (RV.cellw 0 rfl Tryd.isAgg39 rfl Tryd.sizeOf39) (RV.tmp rfl) (fun w' h => retDkZ h)
      · have h := of_decide_eq_false h
        rw [show dkPutAll d s data = (dkPut d s data, 0) by unfold dkPutAll; rw [if_neg (by rw [hb]; simp), if_neg (by rw [hr]; simp), if_neg h]]
        refine C.skip ?_
        refine C.seq ?_
        refine C.region ?_
        refine J.ldw 1 rfl rfl rfl rfl rfl Tryd.isAgg39 rfl Tryd.sizeOf39 ?_
        refine J.move rfl rfl rfl rfl rfl ?_
        refine J.move rfl rfl rfl rfl rfl ?_
        refine J.callrl rfl rfl rfl rfl rfl Tryd.call40 (fun w h => put_calls w d _ _ _ s data (h.bsa hs0) (h.wsa hc0) hb (h.ba hx0) r1 (by omega))  ?_
        rintro v39 R39 ⟨A1, c1, A2, c2, vs, fp, rfl, rfl⟩
        first | refine J.stwc 3 rfl rfl rfl rfl rfl rfl Tryd.sizeOf39 (by first | rfl | assumption | simp [Value.cells, Value.oneCell']) rfl rfl ?_ | refine J.stw 3 rfl rfl rfl rfl rfl rfl Tryd.sizeOf39 (by first | rfl | assumption | simp [Value.cells, Value.oneCell']) rfl rfl ?_
        refine J.asg rfl rfl rfl rfl rfl ?_
        refine J.nil ?_
        refine C.ret ?_
        refine fin2 rfl (RV.cellw 3 rfl Tryd.isAgg39 rfl Tryd.sizeOf39) (RV.tmp rfl) (fun w' h => ?_)
        exact (h.ord [0, 1, 2] (by decide)).retL (List.Sublist.refl _) ⟨A1, c1, A2, c2, vs, fp, rfl, rfl⟩
    · rw [show dkPutAll d s data = (dk0, 41) by unfold dkPutAll; rw [if_neg (by rw [hb]; simp), if_pos hr], hr]
      refine C.cond_t rfl ?_
      refine C.seq ?_
      refine C.region ?_
      refine J.bld (pl := #[(0, 1), (1, 1)]) (cells := #[_, _]) rfl rfl rfl rfl rfl Tryd.zeroValue39 Tryd.runUnderlying39 (fun w => by kernel_rfl) rfl ?_
      first | refine J.stwc 0 rfl rfl rfl rfl rfl rfl Tryd.sizeOf39 (by first | rfl | assumption | simp [Value.cells, Value.oneCell']) rfl rfl ?_ | refine J.stw 0 rfl rfl rfl rfl rfl rfl Tryd.sizeOf39 (by first | rfl | assumption | simp [Value.cells, Value.oneCell']) rfl rfl ?_
      refine J.asg rfl rfl rfl rfl rfl ?_
      refine J.nil ?_
      refine C.ret ?_
      exact fin2 rfl (RV.cellw 0 rfl Tryd.isAgg39 rfl Tryd.sizeOf39) (RV.tmp rfl) (fun w' h => retDkZ h)
end Go.Proofs.YtiminmnmeknioaaDoor

/- disk.land. -/
set_option linter.unusedVariables false
namespace Go.Proofs.YtiminmnmeknioaaDoor
open Go Go.RowKit

/-- The sectors when the first k writes have landed, those that are kept. -/
def landN (kp : Nat → Bool) (c : List Wr) (secs : List (List UInt8)) : Nat → List (List UInt8)
  | 0 => secs
  | k + 1 => match c[k]? with
    | some x => if kp k then (landN kp c secs k).set x.1.toNat x.2 else landN kp c secs k
    | none => landN kp c secs k
theorem landN_succ {kp : Nat → Bool} {c : List Wr} {secs : List (List UInt8)} {k : Nat} {x : Wr} (h : c[k]? = some x) : landN kp c secs (k + 1) = if kp k then (landN kp c secs k).set x.1.toNat x.2 else landN kp c secs k := by
  rw [landN, h]
theorem landN_len (kp : Nat → Bool) (c : List Wr) (secs : List (List UInt8)) : ∀ k, (landN kp c secs k).length = secs.length
  | 0 => rfl
  | k + 1 => by
    have ih := landN_len kp c secs k
    rw [landN]
    split
    · split
      · rw [List.length_set]; exact ih
      · exact ih
    · exact ih
theorem landN_64 {kp : Nat → Bool} {c : List Wr} {secs : List (List UInt8)} (hs : ∀ x ∈ secs, x.length = 64) (hc : ∀ x ∈ c, x.2.length = 64) : ∀ k, ∀ x ∈ landN kp c secs k, x.length = 64
  | 0 => hs
  | k + 1 => by
    have ih := landN_64 (kp := kp) hs hc k
    rw [landN]
    split
    · rename_i x hx
      split
      · intro y hy
        rcases List.mem_or_eq_of_mem_set hy with h | h
        · exact ih y h
        · rw [h]; exact hc x (List.mem_of_getElem? hx)
      · exact ih
    · exact ih
def dkLand (kp : Nat → Bool) (d : Dk) : Dk × Int := if dkBad d = true then (dk0, 9) else (⟨landN kp d.cache d.secs d.cache.length, []⟩, 0)
theorem land_calls (w : World) (d : Dk) (sv cv : Value) (kp : Nat → Bool) (kf : FuncId) (cap : Array Value) (hs : BSA w sv d.secs) (hc : WSA w cv d.cache) (hkc : ∀ args w, (callFunc kf args).run Tryd.prog w = .ok (.enter kf args) w)
    (hkeep : ∀ (i : Nat) (w' : World), i < d.cache.length → Below w.heap.size w w' → Calls Tryd.prog kf ((#[] : Array Value).toList ++ [vi (i : Int)] ++ cap.toList).toArray w' (Ret0 w' (.bool (kp i)))) :
    Calls Tryd.prog 41 #[.agg #[sv, cv], .func (.func kf) #[] cap] w (RetL No w (PDk (dkLand kp d).1 (dkLand kp d).2)) := by
  have hs0 := hs
  have hc0 := hc
  obtain ⟨As, cs, rfl, hl1, hl2, -⟩ := hs.form
  obtain ⟨Ac, cc, rfl, -, -, -⟩ := hc.form
  refine calls_of_C Tryd.func41 rfl Tryd.ntmps41 (Nat.le_of_ble_eq_true rfl) ?_
  refine C.less (L' := [(0, _), (1, _)]) ?_ (Sub.cons rfl (Sub.cons rfl (Sub.nil _))) (fun w h => h)
  refine C.seq ?_
  refine C.region ?_
  first | refine J.boxc rfl rfl rfl rfl rfl rfl (fun b2 => ?_) | refine J.box rfl rfl rfl rfl rfl (fun b2 => ?_)
  refine J.allocc rfl rfl rfl rfl Tryd.zeroValue39 rfl (fun b4 => ?_)
  refine J.asg rfl rfl rfl rfl rfl ?_
  refine J.nil ?_
  refine C.seq ?_
  refine C.seq ?_
  refine C.region ?_
  refine J.ldw 1 rfl rfl rfl rfl rfl Tryd.isAgg39 rfl Tryd.sizeOf39 ?_
  refine J.call0 rfl rfl rfl rfl rfl Tryd.call38 (fun w h => Check_dk_calls w d _ _ (h.bsa hs0) (h.wsa hc0)) ?_
  refine J.asg rfl rfl rfl rfl rfl ?_
  refine J.nil ?_
  refine C.seq ?_
  refine C.region ?_
  refine J.move rfl rfl rfl rfl rfl ?_
  refine J.bin rfl rfl rfl rfl rfl rfl (fun w => rfl) ?_
  refine J.nil ?_
  rcases dkErr_cases d with ⟨hb, he⟩ | ⟨hb, he⟩
  · rw [show dkLand kp d = (dk0, 9) by unfold dkLand; rw [if_pos hb], he]
    refine C.cond_t rfl ?_
    refine C.seq ?_
    refine C.region ?_
    refine J.bld (pl := #[(0, 1), (1, 1)]) (cells := #[_, _]) rfl rfl rfl rfl rfl Tryd.zeroValue39 Tryd.runUnderlying39 (fun w => by kernel_rfl) rfl ?_
    refine J.move rfl rfl rfl rfl rfl ?_
    first | refine J.stwc 0 rfl rfl rfl rfl rfl rfl Tryd.sizeOf39 (by first | rfl | assumption | simp [Value.cells, Value.oneCell']) rfl rfl ?_ | refine J.stw 0 rfl rfl rfl rfl rfl rfl Tryd.sizeOf39 (by first | rfl | assumption | simp [Value.cells, Value.oneCell']) rfl rfl ?_
    refine J.asg rfl rfl rfl rfl rfl ?_
    refine J.nil ?_
    refine C.ret ?_
    exact fin2 rfl (RV.cellw 0 rfl Tryd.isAgg39 rfl Tryd.sizeOf39) (RV.tmp rfl) (fun w' h => retDkZ h)
  · obtain ⟨⟨hs1, hs2⟩, hc1, hsl, hcl⟩ := dkOk hb
    rw [show dkLand kp d = (⟨landN kp d.cache d.secs d.cache.length, []⟩, 0) by unfold dkLand; rw [if_neg (by rw [hb]; simp)], he]
    refine C.cond_f rfl ?_
    refine C.skip ?_
    refine C.seq ?_
    refine C.region ?_
    refine J.ldw 1 rfl rfl rfl rfl rfl Tryd.isAgg39 rfl Tryd.sizeOf39 ?_
    refine J.callrl rfl rfl rfl rfl rfl Tryd.call61 (fun w h => clone_calls w d _ _ (h.bsa hs0) (h.wsa hc0) hb)  ?_
    rintro v17 R17 ⟨A1, c1, A2, c2, vs, us, fp, hul, rfl, rfl⟩
    refine J.allocc rfl rfl rfl rfl Tryd.zeroValue39 rfl (fun b7 => ?_)
    first | refine J.stwc 0 rfl rfl rfl rfl rfl rfl Tryd.sizeOf39 (by first | rfl | assumption | simp [Value.cells, Value.oneCell']) rfl rfl ?_ | refine J.stw 0 rfl rfl rfl rfl rfl rfl Tryd.sizeOf39 (by first | rfl | assumption | simp [Value.cells, Value.oneCell']) rfl rfl ?_
    refine J.nil ?_
    refine C.seq ?_
    refine C.seq ?_
    refine C.region ?_
    refine J.fld (k := 1) rfl rfl rfl rfl rfl Tryd.runUnderlying39 rfl rfl Tryd.sizeOf37 ?_
    refine J.ldo 0 rfl rfl rfl rfl rfl Tryd.isAgg37 rfl rfl ?_
    refine J.len rfl rfl rfl rfl rfl Tryd.runUnderlying37 ?_
    refine J.move rfl rfl rfl rfl rfl ?_
    refine J.nil ?_
    refine C.block ?_
    refine C.fact (p := vs.length = d.secs.length) (fun w h => (h.get 2 rfl).1) ?_
    intro hvl
    refine C.loop (σ := Nat) (fun i => i ≤ d.cache.length) (fun i => [(1, .func (.func kf) #[] cap), (4, .pointer (some ⟨b4, 0, none⟩)), (7, .pointer (some ⟨b7, 0, none⟩)), (19, .slice A2 d.cache.length c2), (20, vi (d.cache.length : Int)), (21, vi (i : Int))]) (fun i => [gR 5 vs (landN kp d.cache d.secs i), blk b7 #[.slice A1 d.secs.length c1, .slice A2 d.cache.length c2] 39, rowR 22 1 (.slice A1 d.secs.length c1) d.secs.length vs, rowR 105 2 (.slice A2 d.cache.length c2) d.cache.length (wcells d.cache us), mR fp us (d.cache.map (·.2)), blk b4 #[.slice none 0 0, .slice none 0 0] 39]) (fun i => d.cache.length - i) 0 (Nat.zero_le _) ?_ ?_ ?_
    · exact (Sub.cons rfl (Sub.cons rfl (Sub.cons rfl (Sub.cons rfl (Sub.cons rfl (Sub.cons rfl (Sub.nil _)))))))
    · exact fun w h => h.ord [2, 0, 1, 3, 4, 5] (by decide)
    intro i hi
    dsimp only at hi ⊢
    refine C.seq ?_
    refine C.region ?_
    refine J.bin rfl rfl rfl rfl rfl rfl (fun w => rfl) ?_
    refine J.nil ?_
    refine C.seq ?_
    refine C.cond rfl (fun h => ?_) (fun h => ?_)
    · have hlt : i < d.cache.length := by have := of_decide_eq_true h; omega
      obtain ⟨u, hu⟩ : ∃ u, us[i]? = some u := ⟨_, List.getElem?_eq_getElem (by omega)⟩
      obtain ⟨x, hx⟩ : ∃ x, d.cache[i]? = some x := ⟨_, List.getElem?_eq_getElem hlt⟩
      obtain ⟨hx0, hx1, hx64⟩ := hcl x (List.mem_of_getElem? hx)
      refine C.fact (fun w h => row_some (h.get 3 rfl) (by omega)) ?_
      rintro ⟨bw, rfl⟩
      refine C.fact (fun w h => row_some (h.get 2 rfl) (by omega)) ?_
      rintro ⟨bs, rfl⟩
      refine C.fact (p := ∃ A c, u = .slice A x.2.length c) (fun w h => by
        obtain ⟨A, c, e, _⟩ := ((h.get 4 rfl).2 i u x.2 hu (by rw [List.getElem?_map, hx]; rfl)).form
        exact ⟨A, c, e⟩) ?_
      rintro ⟨Au, cu, rfl⟩
      obtain ⟨vj, hvj⟩ : ∃ v, vs[x.1.toNat]? = some v := ⟨_, List.getElem?_eq_getElem (by omega)⟩
      obtain ⟨y, hy⟩ : ∃ y, (landN kp d.cache d.secs i)[x.1.toNat]? = some y := ⟨_, List.getElem?_eq_getElem (by rw [landN_len]; omega)⟩
      have hy64 : y.length = 64 := landN_64 hsl (fun x hx => (hcl x hx).2.2) i y (List.mem_of_getElem? hy)
      refine C.skip ?_
      refine C.seq ?_
      refine C.block ?_
      refine C.seq ?_
      refine C.region ?_
      refine J.move rfl rfl rfl rfl rfl ?_
      first | refine J.idxn rfl rfl rfl rfl rfl rfl Tryd.runUnderlying37 Tryd.sizeOf105 (by omega) ?_ | refine J.idx rfl rfl rfl rfl rfl rfl Tryd.runUnderlying37 Tryd.sizeOf105 (by omega) ?_
      refine J.ldn (cs := [_, _]) rfl rfl rfl rfl rfl Tryd.isAgg105 Tryd.sizeOf105 (fun w h => cells2 (by rw [Nat.zero_add]; exact h.rcell 3 rfl (wcells_get1 hul hx)) (by rw [Nat.zero_add]; exact h.rcell 3 rfl (wcells_get2 hul hlt hu))) ?_
      refine J.allocc rfl rfl rfl rfl Tryd.zeroValue105 rfl (fun b9 => ?_)
      refine J.asg rfl rfl rfl rfl rfl ?_
      first | refine J.stwc 0 rfl rfl rfl rfl rfl rfl Tryd.sizeOf105 (by first | rfl | assumption | simp [Value.cells, Value.oneCell']) rfl rfl ?_ | refine J.stw 0 rfl rfl rfl rfl rfl rfl Tryd.sizeOf105 (by first | rfl | assumption | simp [Value.cells, Value.oneCell']) rfl rfl ?_
      refine J.nil ?_
      refine C.seq ?_
      refine C.region ?_
      refine J.move rfl rfl rfl rfl rfl ?_
      refine J.move rfl rfl rfl rfl rfl ?_
      refine J.callf0 rfl rfl rfl rfl rfl rfl hkc (fun w h => hkeep i w hlt h.below) ?_
      refine J.nil ?_
      refine C.cond rfl (fun hk => ?_) (fun hk => ?_)
      · refine C.ex (fun q : Nat × Nat × Array Value => [blk q.1 q.2.2 5, gX 5 x.1.toNat vs (landN kp d.cache d.secs i), blk b9 #[vi x.1, .slice Au x.2.length cu] 105, blk b7 #[.slice (some ⟨bs, 0, none⟩) d.secs.length c1, .slice (some ⟨bw, 0, none⟩) d.cache.length c2] 39, rowR 22 1 (.slice (some ⟨bs, 0, none⟩) d.secs.length c1) d.secs.length vs, rowR 105 2 (.slice (some ⟨bw, 0, none⟩) d.cache.length c2) d.cache.length (wcells d.cache us), mR fp us (d.cache.map (·.2)), blk b4 #[.slice none 0 0, .slice none 0 0] 39]) _ (fun w h => (h.ord [1, 0, 2, 3, 4, 5, 6] (by decide)).gopen hvj hy (by omega)) ?_
        rintro ⟨gb, gc, gcur⟩ ⟨rfl, hg1, hg2, hg3, hg4⟩
        dsimp only at hg1 hg2 hg3 hg4 ⊢
        refine C.regionD0 8 (by kernel_rfl) ?_
        refine JD.take 0 rfl rfl rfl rfl (by kernel_rfl) (fun w h => h) (R.fld (k := 0) rfl rfl Tryd.runUnderlying39 rfl rfl Tryd.sizeOf36) ?_
        refine JD.take 1 rfl rfl rfl rfl (by kernel_rfl) (fun w h => h) (R.ld rfl rfl Tryd.isAgg36 (fun w h => cellL h 3 rfl rfl)) ?_
        refine JD.take 2 rfl rfl rfl rfl (by kernel_rfl) (fun w h => h) (R.fld (k := 0) rfl rfl Tryd.runUnderlying105 rfl rfl Tryd.sizeOf3) ?_
        refine JD.take 3 rfl rfl rfl rfl (by kernel_rfl) (fun w h => h) (R.ld rfl rfl Tryd.isAgg3 (fun w h => cellL h 2 rfl rfl)) ?_
        refine JD.take 4 rfl rfl rfl rfl (by kernel_rfl) (fun w h => h) (by first | exact (R.idx1 rfl rfl rfl Tryd.runUnderlying36 Tryd.sizeOf22 (by omega)) | exact (R.idx rfl rfl rfl Tryd.runUnderlying36 Tryd.sizeOf22 (by omega))) ?_
        refine JD.take 6 rfl rfl rfl rfl (by kernel_rfl) (fun w h => h) (R.fld (k := 1) rfl rfl Tryd.runUnderlying105 rfl rfl Tryd.sizeOf22) ?_
        refine JD.take 7 rfl rfl rfl rfl (by kernel_rfl) (fun w h => h) (R.ld rfl rfl Tryd.isAgg22 (fun w h => cellL h 2 rfl rfl)) ?_
        refine JD.take 5 rfl rfl rfl rfl (by kernel_rfl) (fun w h => h) (R.ld rfl rfl Tryd.isAgg22 (fun w h => by rw [Nat.zero_add, Nat.mul_one]; exact h.rcell 4 rfl hvj)) ?_
        refine JD.step 8 rfl (by kernel_rfl) ?_
        refine J.copy 0 rfl rfl rfl rfl rfl rfl Tryd.underlying22 (inf_size inf5) rfl (news := x.2.map vu8) (by rw [List.length_map, hx64, hy64]; rfl) (fun w' h hn => srcB ((h.get 6 rfl).2 i _ x.2 hu (by rw [List.getElem?_map, hx]; rfl)) hn) (by rw [List.length_map]; show 0 + _ ≤ gcur.size; omega) (all_u8 _) ?_
        refine J.nil ⟨(fun h => by cases h), ?_⟩
        refine JD.done (by kernel_rfl) ?_
        refine C.region ?_
        refine J.bin rfl rfl rfl rfl rfl rfl (fun w => ra_add (by omega)) ?_
        refine J.move rfl rfl rfl rfl rfl ?_
        refine J.nil ?_
        refine ⟨rfl, i + 1, hlt, by omega, (Sub.cons rfl (Sub.cons rfl (Sub.cons rfl (Sub.cons rfl (Sub.cons rfl (Sub.cons rfl (Sub.nil _))))))), fun w h => ?_⟩
        rw [landN_succ hx, if_pos hk]
        have hvj2 : vs[x.1.toNat]? = some (.slice (some ⟨gb, 0, none⟩) x.2.length gc) := by rw [hx64, ← hy64]; exact hvj
        refine (h.gclose hvj2 (by omega) hg2 ?_ ?_).ord [0, 2, 3, 4, 5, 6] (by decide)
        · rw [List.size_toArray, List.length_append, List.length_append, List.length_take, List.length_drop, List.length_map, Array.length_toList]; omega
        · rw [List.take_zero, List.nil_append, List.take_left' (by rw [List.length_map])]
      · refine C.skip ?_
        refine C.region ?_
        refine J.bin rfl rfl rfl rfl rfl rfl (fun w => ra_add (by omega)) ?_
        refine J.move rfl rfl rfl rfl rfl ?_
        refine J.nil ?_
        exact ⟨rfl, i + 1, hlt, by omega, (Sub.cons rfl (Sub.cons rfl (Sub.cons rfl (Sub.cons rfl (Sub.cons rfl (Sub.cons rfl (Sub.nil _))))))), fun w h => by rw [landN_succ hx, if_neg (by rw [hk]; simp)]; exact h.ord [1, 2, 3, 4, 5, 6] (by decide)⟩
    · have hge : i = d.cache.length := by have := of_decide_eq_false h; omega
      subst hge
      refine C.exit rfl ?_
      refine C.seq ?_
      refine C.region ?_
      refine J.fld (k := 1) rfl rfl rfl rfl rfl Tryd.runUnderlying39 rfl rfl Tryd.sizeOf37 ?_
      refine J.st1 1 rfl rfl rfl rfl rfl rfl Tryd.sizeOf37 (by first | rfl | assumption | simp [Value.cells, Value.oneCell']) rfl rfl rfl ?_
      refine J.nil ?_
      refine C.seq ?_
      refine C.region ?_
      refine J.ldw 1 rfl rfl rfl rfl rfl Tryd.isAgg39 rfl Tryd.sizeOf39 ?_
      first | refine J.stwc 5 rfl rfl rfl rfl rfl rfl Tryd.sizeOf39 (by first | rfl | assumption | simp [Value.cells, Value.oneCell']) rfl rfl ?_ | refine J.stw 5 rfl rfl rfl rfl rfl rfl Tryd.sizeOf39 (by first | rfl | assumption | simp [Value.cells, Value.oneCell']) rfl rfl ?_
      refine J.asg rfl rfl rfl rfl rfl ?_
      refine J.nil ?_
      refine C.ret ?_
      refine fin2 rfl (RV.cellw 5 rfl Tryd.isAgg39 rfl Tryd.sizeOf39) (RV.tmp rfl) (fun w' h => ?_)
      refine ((nilRws h).ord [3, 1, 0] (by decide)).retL (List.Sublist.refl _) ⟨A1, c1, none, 0, vs, fun _ => False, ?_, ?_⟩
      · rw [landN_len]; rfl
      · rw [landN_len]; rfl
end Go.Proofs.YtiminmnmeknioaaDoor

/- disk.Flush, disk.Crash. -/
set_option linter.unusedVariables false
namespace Go.Proofs.YtiminmnmeknioaaDoor
open Go Go.RowKit

/-! Slices of truth values. -/
def isT (_ : World) (x : Bool) (cs : List Value) : Prop := cs = [.bool x]
def RT (fp : Nat → Prop) (w : World) (v : Value) (xs : List Bool) : Prop := RSl 1 isT fp w v xs
abbrev TA (w : World) (v : Value) (xs : List Bool) : Prop := RT (Old w) w v xs
section
variable {mu fp fp' : Nat → Prop} {w w' w0 : World} {v : Value} {xs : List Bool} {M : List Res}
theorem RT.imp (h : RT fp w v xs) (hf : ∀ b, fp b → fp' b) (hc : ∀ b, fp b → w'.heap[b]? = w.heap[b]?) : RT fp' w' v xs := RSl.imp h hf hc fun _ _ h => h
theorem RT.later (h : TA w v xs) (hb : Below w.heap.size w w') : TA w' v xs := RT.imp h (fun b hb' => Nat.lt_of_lt_of_le hb' hb.size) (fun b hb' => hb.block b hb')
theorem St.ta (h : St No w0 M w) (hx : TA w0 v xs) : TA w v xs := hx.later h.below
theorem RT.form (h : RT fp w v xs) : ∃ A c, v = .slice A xs.length c ∧ xs.length ≤ c ∧ c ≤ 9223372036854775807 ∧ (0 < xs.length → ∃ b o, A = some ⟨b, o, none⟩ ∧ fp b ∧ ∀ j x, xs[j]? = some x → w.cell? ⟨b, o + j, none⟩ = some (.bool x)) := by
  obtain ⟨A, n, c, rfl, rfl, h1, h2, h3⟩ := h
  refine ⟨A, c, rfl, h1, h2, fun hn => ?_⟩
  obtain ⟨b, o, hA, hb, hc⟩ := h3 hn
  refine ⟨b, o, hA, hb, fun j x hx => ?_⟩
  obtain ⟨cs, _, rfl, hcs⟩ := hc j x hx
  have := hcs 0 _ rfl
  simpa using this
theorem RT.mk {A : Option Addr} {n c : Nat} (hl : xs.length = n) (h1 : n ≤ c) (h2 : c ≤ 9223372036854775807) (h3 : 0 < n → ∃ b o, A = some ⟨b, o, none⟩ ∧ fp b ∧ ∀ j x, xs[j]? = some x → w.cell? ⟨b, o + j, none⟩ = some (.bool x)) : RT fp w (.slice A n c) xs := by
  refine ⟨A, n, c, rfl, hl, h1, h2, fun hn => ?_⟩
  obtain ⟨b, o, hA, hb, hc⟩ := h3 hn
  exact ⟨b, o, hA, hb, fun j x hx => ⟨[.bool x], rfl, rfl, fun i u hu => by
    cases i with
    | zero => simp only [List.getElem?_cons_zero, Option.some.injEq] at hu; subst hu; simpa using hc j x hx
    | succ i => simp at hu⟩⟩
end
theorem flushk_calls (w : World) (i : Int) : Calls Tryd.prog 42 #[vi i] w (Ret0 w (.bool true)) := by
  refine calls_of_C Tryd.func42 rfl Tryd.ntmps42 (Nat.le_of_ble_eq_true rfl) ?_
  refine C.less (L' := [(0, _)]) ?_ (Sub.cons rfl (Sub.nil _)) (fun w h => h)
  refine C.seq ?_
  refine C.region ?_
  refine J.asg rfl rfl rfl rfl rfl ?_
  refine J.nil ?_
  refine C.seq ?_
  refine C.region ?_
  refine J.asg rfl rfl rfl rfl rfl ?_
  refine J.nil ?_
  refine C.ret ?_
  exact fin1 rfl (RV.tmp rfl) (fun w' h => h.ret0)
theorem Flush_calls (w : World) (d : Dk) (sv cv : Value) (hs : BSA w sv d.secs) (hc : WSA w cv d.cache) : Calls Tryd.prog 23 #[.agg #[sv, cv]] w (RetL No w (PDk (dkLand (fun _ => true) d).1 (dkLand (fun _ => true) d).2)) := by
  have hs0 := hs
  have hc0 := hc
  obtain ⟨As, cs, rfl, -, -, -⟩ := hs.form
  obtain ⟨Ac, cc, rfl, -, -, -⟩ := hc.form
  refine calls_of_C Tryd.func23 rfl Tryd.ntmps23 (Nat.le_of_ble_eq_true rfl) ?_
  refine C.less (L' := [(0, _)]) ?_ (Sub.cons rfl (Sub.nil _)) (fun w h => h)
  refine C.seq ?_
  refine C.region ?_
  first | refine J.boxc rfl rfl rfl rfl rfl rfl (fun b1 => ?_) | refine J.box rfl rfl rfl rfl rfl (fun b1 => ?_)
  refine J.allocc rfl rfl rfl rfl Tryd.zeroValue39 rfl (fun b2 => ?_)
  refine J.asg rfl rfl rfl rfl rfl ?_
  refine J.nil ?_
  refine C.seq ?_
  refine C.region ?_
  refine J.ldw 1 rfl rfl rfl rfl rfl Tryd.isAgg39 rfl Tryd.sizeOf39 ?_
  refine J.callrl rfl rfl rfl rfl rfl Tryd.call41 (fun w h => land_calls w d _ _ (fun _ => true) 42 #[] (h.bsa hs0) (h.wsa hc0) Tryd.call42 (fun i w' _ _ => flushk_calls w' i))  ?_
  rintro v5 R5 ⟨A1, c1, A2, c2, vs, fp, rfl, rfl⟩
  refine J.ext rfl rfl rfl rfl rfl rfl ?_
  refine J.ext rfl rfl rfl rfl rfl rfl ?_
  first | refine J.stwc 3 rfl rfl rfl rfl rfl rfl Tryd.sizeOf39 (by first | rfl | assumption | simp [Value.cells, Value.oneCell']) rfl rfl ?_ | refine J.stw 3 rfl rfl rfl rfl rfl rfl Tryd.sizeOf39 (by first | rfl | assumption | simp [Value.cells, Value.oneCell']) rfl rfl ?_
  refine J.asg rfl rfl rfl rfl rfl ?_
  refine J.nil ?_
  refine C.ret ?_
  exact fin2 rfl (RV.cellw 3 rfl Tryd.isAgg39 rfl Tryd.sizeOf39) (RV.tmp rfl) (fun w' h => (h.ord [0, 1, 2] (by decide)).retL (List.Sublist.refl _) ⟨A1, c1, A2, c2, vs, fp, rfl, rfl⟩)































end Go.Proofs.YtiminmnmeknioaaDoor

/- ref03.New, Check. -/
set_option linter.unusedVariables false
namespace Go.Proofs.YtiminmnmeknioaaDoor
open Go Go.RowKit

/-  The page's disk in memory of the call's own. -/
def PRk (d : Dk) (e : Int) : Value → List Res → Prop := fun v Rs => ∃ A1 c1 A2 c2 fp1 fp2, Rs = [rbsR fp1 (.slice A1 d.secs.length c1) d.secs, rwsR fp2 (.slice A2 d.cache.length c2) d.cache] ∧ v = .tuple #[.agg #[.slice A1 d.secs.length c1, .slice A2 d.cache.length c2], vi e]
theorem nilRbs {mu : Nat → Prop} {w0 w : World} {M : List Res} (h : St mu w0 M w) : St mu w0 (rbsR (fun _ => False) (.slice none 0 0) [] :: M) w :=
  h.grow (Below.refl _ w) RBS.nil (fun b hb => hb.elim)
theorem retRkZ {w w' : World} {M : List Res} {e : Int} (h : St No w M w') : RetL No w (PRk ⟨[], []⟩ e) (.returned (.tuple #[.agg #[.slice none 0 0, .slice none 0 0], vi e])) w' :=
  (nilRbs (nilRws h)).retL (Rs := [_, _]) (((List.nil_sublist _).cons_cons _).cons_cons _) ⟨none, 0, none, 0, _, _, rfl, rfl⟩
theorem retRk {w w' : World} {M : List Res} {e : Int} {d : Dk} {A1 A2 : Option Addr} {n m c1 c2 : Nat} {fp1 fp2 : Nat → Prop} (hn : d.secs.length = n) (hm : d.cache.length = m) (h : St No w (rbsR fp1 (.slice A1 n c1) d.secs :: rwsR fp2 (.slice A2 m c2) d.cache :: M) w') : RetL No w (PRk d e) (.returned (.tuple #[.agg #[.slice A1 n c1, .slice A2 m c2], vi e])) w' := by
  subst hn hm
  exact h.retL (Rs := [_, _]) (((List.nil_sublist _).cons_cons _).cons_cons _) ⟨A1, c1, A2, c2, fp1, fp2, rfl, rfl⟩
























































theorem take_any {α : Type} {p : α → Bool} {l : List α} {i : Nat} {x : α} (hx : l[i]? = some x) (h1 : (l.take i).any p = false) (h2 : p x = false) : (l.take (i + 1)).any p = false := by
  rw [take_snoc hx, List.any_append, h1]
  simp [h2]


































































































































end Go.Proofs.YtiminmnmeknioaaDoor

/- ref03.Own. -/
set_option linter.unusedVariables false
namespace Go.Proofs.YtiminmnmeknioaaDoor
open Go Go.RowKit

/-  The page's disk in rows of one's own. -/





















































































end Go.Proofs.YtiminmnmeknioaaDoor

/- ref03.padded, last, GetAll. -/
set_option linter.unusedVariables false
namespace Go.Proofs.YtiminmnmeknioaaDoor
open Go Go.RowKit

theorem room_no {len : Nat} {s n : Int} (h : ¬ (0 ≤ s ∧ 0 ≤ n ∧ s ≤ len ∧ n ≤ len - s)) : roomOk len s n = false := decide_eq_false h



































































































































































end Go.Proofs.YtiminmnmeknioaaDoor

/- ref03.PutAll. -/
set_option linter.unusedVariables false
namespace Go.Proofs.YtiminmnmeknioaaDoor
open Go Go.RowKit
















































































































end Go.Proofs.YtiminmnmeknioaaDoor

/- ref03.Crash. -/
set_option linter.unusedVariables false
namespace Go.Proofs.YtiminmnmeknioaaDoor
open Go Go.RowKit

theorem landN_stop {kp : Nat → Bool} {c : List Wr} {secs : List (List UInt8)} {i : Nat} (h : ∀ j, i ≤ j → kp j = false) : ∀ k, landN kp c secs (i + k) = landN kp c secs i
  | 0 => rfl
  | k + 1 => by
    have ih := landN_stop (c := c) (secs := secs) h k
    rw [← Nat.add_assoc, landN]
    split
    · rw [if_neg (by rw [h (i + k) (by omega)]; simp)]; exact ih
    · exact ih
theorem landN_congr {kp kq : Nat → Bool} {c : List Wr} {secs : List (List UInt8)} : ∀ k, (∀ i, i < k → kp i = kq i) → landN kp c secs k = landN kq c secs k
  | 0, _ => rfl
  | k + 1, h => by
    have ih := landN_congr (c := c) (secs := secs) k (fun i hi => h i (by omega))
    rw [landN, landN, ih, h k (by omega)]
theorem St.mset {mu : Nat → Prop} {w0 w : World} {M : List Res} {fp fp1 : Nat → Prop} {u : Value} {x : List UInt8} {vs : List Value} {xss : List (List UInt8)} (j : Nat) (h : St mu w0 (rbR fp1 u x :: mR fp vs xss :: M) w) : St mu w0 (mR (fun b => fp b ∨ fp1 b) (vs.set j u) (xss.set j x) :: M) w := by
  have h1 : RB fp1 w u x := h.get 0 rfl
  have h2 : (mR fp vs xss).hold w := h.get 1 rfl
  refine h.merge ⟨by simp [h2.1], fun i u' x' hu hx => ?_⟩ (fun b hb => hb.symm)
  rw [List.getElem?_set] at hu hx
  by_cases hij : j = i
  · rw [if_pos hij] at hu hx
    split at hu
    · injection hu with hu
      subst hu
      split at hx
      · injection hx with hx
        subst hx
        exact RB.imp h1 (fun _ h => .inr h) (fun _ _ => rfl)
      · cases hx
    · cases hu
  · rw [if_neg hij] at hu hx
    exact RB.imp (h2.2 i u' x' hu hx) (fun _ h => .inl h) (fun _ _ => rfl)
theorem St.mba {mu : Nat → Prop} {w0 w : World} {M : List Res} {fp : Nat → Prop} {u : Value} {x : List UInt8} {vs : List Value} {xss : List (List UInt8)} {i : Nat} (h : St mu w0 M w) (k : Nat) (hk : M[k]? = some (mR fp vs xss)) (hu : vs[i]? = some u) (hx : xss[i]? = some x) : BA w u x :=
  RB.imp ((h.get k hk : (mR fp vs xss).hold w).2 i u x hu hx) (fun b hb => (h.bd k hk hb).2) (fun _ _ => rfl)



























































































end Go.Proofs.YtiminmnmeknioaaDoor

/- ref03.Flush. -/
set_option linter.unusedVariables false
namespace Go.Proofs.YtiminmnmeknioaaDoor
open Go Go.RowKit

theorem blk_ta {mu : Nat → Prop} {w0 w : World} {M : List Res} {b n : Nat} {t : TypeId} (h : St mu w0 M w) (k : Nat) (hk : M[k]? = some (blk b (List.replicate n (Value.bool true)).toArray t)) (hn : n ≤ 9223372036854775807) : TA w (.slice (some ⟨b, 0, none⟩) n n) (List.replicate n true) := by
  have h1 : w.heap[b]? = some (.cells (List.replicate n (Value.bool true)).toArray t (0, 0)) := h.get k hk
  refine RT.mk (by simp) (Nat.le_refl _) hn fun hn => ⟨b, 0, rfl, heap_lt h1, fun j x hx => ?_⟩
  have hj : j < n := by have := (List.getElem?_eq_some_iff.1 hx).1; simpa using this
  rw [List.getElem?_replicate, if_pos hj] at hx
  injection hx with hx
  subst hx
  rw [Nat.zero_add]
  simp [World.cell?, h1, hj]



































end Go.Proofs.YtiminmnmeknioaaDoor

/- point.Store. -/
set_option linter.unusedVariables false
namespace Go.Proofs.YtiminmnmeknioaaDoor
open Go Go.RowKit

def askErr (d : Dk) : Int := if dkBad d = true then 9 else if d.secs.length < 16 then 41 else 0
theorem asked_calls (w : World) (d : Dk) (sv cv : Value) (hs : BSA w sv d.secs) (hc : WSA w cv d.cache) : Calls Tryd.prog 21 #[.agg #[sv, cv]] w (Ret0 w (vi (askErr d))) := by
  have hs0 := hs
  have hc0 := hc
  obtain ⟨As, cs, rfl, -, -, -⟩ := hs.form
  obtain ⟨Ac, cc, rfl, -, -, -⟩ := hc.form
  refine calls_of_C Tryd.func21 rfl Tryd.ntmps21 (Nat.le_of_ble_eq_true rfl) ?_
  refine C.less (L' := [(0, _)]) ?_ (Sub.cons rfl (Sub.nil _)) (fun w h => h)
  refine C.seq ?_
  refine C.region ?_
  first | refine J.boxc rfl rfl rfl rfl rfl rfl (fun b1 => ?_) | refine J.box rfl rfl rfl rfl rfl (fun b1 => ?_)
  refine J.asg rfl rfl rfl rfl rfl ?_
  refine J.nil ?_
  refine C.seq ?_
  refine C.seq ?_
  refine C.region ?_
  refine J.ldw 0 rfl rfl rfl rfl rfl Tryd.isAgg39 rfl Tryd.sizeOf39 ?_
  refine J.call0 rfl rfl rfl rfl rfl Tryd.call38 (fun w h => Check_dk_calls w d _ _ (h.bsa hs0) (h.wsa hc0)) ?_
  refine J.asg rfl rfl rfl rfl rfl ?_
  refine J.nil ?_
  refine C.seq ?_
  refine C.region ?_
  refine J.move rfl rfl rfl rfl rfl ?_
  refine J.bin rfl rfl rfl rfl rfl rfl (fun w => rfl) ?_
  refine J.nil ?_
  rcases dkErr_cases d with ⟨hb, he⟩ | ⟨hb, he⟩
  · rw [show askErr d = 9 by unfold askErr; rw [if_pos hb], he]
    refine C.cond_t rfl ?_
    refine C.seq ?_
    refine C.region ?_
    refine J.move rfl rfl rfl rfl rfl ?_
    refine J.asg rfl rfl rfl rfl rfl ?_
    refine J.nil ?_
    refine C.ret ?_
    exact fin1 rfl (RV.tmp rfl) (fun w' h => h.ret0)
  · rw [he]
    refine C.cond_f rfl ?_
    refine C.skip ?_
    refine C.seq ?_
    refine C.seq ?_
    refine C.region ?_
    refine J.fld (k := 0) rfl rfl rfl rfl rfl Tryd.runUnderlying39 rfl rfl Tryd.sizeOf36 ?_
    refine J.ldo 0 rfl rfl rfl rfl rfl Tryd.isAgg36 rfl rfl ?_
    refine J.len rfl rfl rfl rfl rfl Tryd.runUnderlying36 ?_
    refine J.bin rfl rfl rfl rfl rfl rfl (fun w => rfl) ?_
    refine J.nil ?_
    refine C.cond rfl (fun h => ?_) (fun h => ?_)
    · rw [show askErr d = 41 by unfold askErr; rw [if_neg (by rw [hb]; simp), if_pos (by have := of_decide_eq_true h; omega)]]
      refine C.seq ?_
      refine C.region ?_
      refine J.asg rfl rfl rfl rfl rfl ?_
      refine J.nil ?_
      refine C.ret ?_
      exact fin1 rfl (RV.tmp rfl) (fun w' h => h.ret0)
    · rw [show askErr d = 0 by unfold askErr; rw [if_neg (by rw [hb]; simp), if_neg (by have := of_decide_eq_false h; omega)]]
      refine C.skip ?_
      refine C.seq ?_
      refine C.region ?_
      refine J.asg rfl rfl rfl rfl rfl ?_
      refine J.nil ?_
      refine C.ret ?_
      exact fin1 rfl (RV.tmp rfl) (fun w' h => h.ret0)

























theorem rem2 {P : Program} {w : World} {t : TypeId} (n : Int) (h : 0 ≤ n) : (binOp .rem t (.int .i64 n) (.int .i64 2)).run P w = .ok (.int .i64 (n % 2)) w := by
  show Result.ok (Value.int .i64 (n.tmod 2)) w = _
  rw [Int.tmod_eq_emod_of_nonneg h]
theorem St.bsa_own {mu : Nat → Prop} {w0 w : World} {M : List Res} {e e' : TypeId} {v : Value} {n : Nat} {vs : List Value} {xss : List (List UInt8)} (h : St mu w0 (rowR e 1 v n vs :: gR e' vs xss :: M) w) : BSA w v xss := by
  have h1 := (h.ord [1, 0] (by decide)).at_ (gR_mR h 1 rfl) (fun _ hb => hb)
  exact ((h1.ord [1, 0] (by decide)).rbs_of).rbs 0 rfl
def ptStore (d : Dk) (p : Pt) : Dk × Int := if askErr d ≠ 0 then (dk0, askErr d) else if ptErr p ≠ 0 then (dk0, ptErr p) else if (dkPutAll d (8 * (p.ep % 2)) (ptReg p)).2 ≠ 0 then (dk0, (dkPutAll d (8 * (p.ep % 2)) (ptReg p)).2) else dkLand (fun _ => true) (dkPutAll d (8 * (p.ep % 2)) (ptReg p)).1
theorem Store_calls (w : World) (d : Dk) (p : Pt) (sv cv dv : Value) (hs : BSA w sv d.secs) (hc : WSA w cv d.cache) (hx : BA w dv p.dt) (hl : p.dt.length ≤ 140737488355328) : Calls Tryd.prog 11 #[.agg #[sv, cv], .agg #[vi p.ep, vi p.sq, vi p.vw, vi p.cm, dv]] w (RetL No w (PDk (ptStore d p).1 (ptStore d p).2)) := by
  have hs0 := hs
  have hc0 := hc
  have hx0 := hx
  obtain ⟨As, cs, rfl, -, -, -⟩ := hs.form
  obtain ⟨Ac, cc, rfl, -, -, -⟩ := hc.form
  obtain ⟨A, c, rfl, -, -, -⟩ := hx.form
  refine calls_of_C Tryd.func11 rfl Tryd.ntmps11 (Nat.le_of_ble_eq_true rfl) ?_
  refine C.less (L' := [(0, _), (1, _)]) ?_ (Sub.cons rfl (Sub.cons rfl (Sub.nil _))) (fun w h => h)
  refine C.seq ?_
  refine C.region ?_
  first | refine J.boxc rfl rfl rfl rfl rfl rfl (fun b2 => ?_) | refine J.box rfl rfl rfl rfl rfl (fun b2 => ?_)
  first | refine J.boxc rfl rfl rfl rfl rfl rfl (fun b3 => ?_) | refine J.box rfl rfl rfl rfl rfl (fun b3 => ?_)
  refine J.allocc rfl rfl rfl rfl Tryd.zeroValue39 rfl (fun b4 => ?_)
  refine J.asg rfl rfl rfl rfl rfl ?_
  refine J.nil ?_
  refine C.seq ?_
  refine C.seq ?_
  refine C.region ?_
  refine J.ldw 2 rfl rfl rfl rfl rfl Tryd.isAgg39 rfl Tryd.sizeOf39 ?_
  refine J.call0 rfl rfl rfl rfl rfl Tryd.call21 (fun w h => asked_calls w d _ _ (h.bsa hs0) (h.wsa hc0)) ?_
  refine J.asg rfl rfl rfl rfl rfl ?_
  refine J.nil ?_
  refine C.seq ?_
  refine C.region ?_
  refine J.move rfl rfl rfl rfl rfl ?_
  refine J.bin rfl rfl rfl rfl rfl rfl (fun w => rfl) ?_
  refine J.nil ?_
  refine C.cond rfl (fun h => ?_) (fun h => ?_)
  · have h : askErr d ≠ 0 := by simpa using h
    rw [show ptStore d p = (dk0, askErr d) by unfold ptStore; rw [if_pos h]]
    refine C.seq ?_
    refine C.region ?_
    refine J.bld (pl := #[(0, 1), (1, 1)]) (cells := #[_, _]) rfl rfl rfl rfl rfl Tryd.zeroValue39 Tryd.runUnderlying39 (fun w => by kernel_rfl) rfl ?_
    refine J.move rfl rfl rfl rfl rfl ?_
    first | refine J.stwc 0 rfl rfl rfl rfl rfl rfl Tryd.sizeOf39 (by first | rfl | assumption | simp [Value.cells, Value.oneCell']) rfl rfl ?_ | refine J.stw 0 rfl rfl rfl rfl rfl rfl Tryd.sizeOf39 (by first | rfl | assumption | simp [Value.cells, Value.oneCell']) rfl rfl ?_
    refine J.asg rfl rfl rfl rfl rfl ?_
    refine J.nil ?_
    refine C.ret ?_
    exact fin2 rfl (RV.cellw 0 rfl Tryd.isAgg39 rfl Tryd.sizeOf39) (RV.tmp rfl) (fun w' h => retDkZ h)
  · have h : ¬ askErr d ≠ 0 := by simpa using h
    refine C.skip ?_
    refine C.seq ?_
    refine C.region ?_
    refine J.ldw 1 rfl rfl rfl rfl rfl Tryd.isAgg29 rfl Tryd.sizeOf29 ?_
    refine J.callr rfl rfl rfl rfl rfl Tryd.call5 (fun w h => Encode_pt_calls w p _ (h.ba hx0) hl)  ?_
    rintro v17 r17 ⟨Ae, ce, fe, -, -, rfl, rfl⟩
    refine J.move rfl rfl rfl rfl rfl ?_
    refine J.ext rfl rfl rfl rfl rfl rfl ?_
    refine J.ext rfl rfl rfl rfl rfl rfl ?_
    refine J.asg rfl rfl rfl rfl rfl ?_
    refine J.asg rfl rfl rfl rfl rfl ?_
    refine J.nil ?_
    refine C.seq ?_
    refine C.seq ?_
    refine C.region ?_
    refine J.move rfl rfl rfl rfl rfl ?_
    refine J.bin rfl rfl rfl rfl rfl rfl (fun w => rfl) ?_
    refine J.nil ?_
    rcases Decidable.em (ptErr p = 0) with h2 | h2
    · have he : ptEnc p = (ptReg p, 0) := by unfold ptEnc; rw [if_pos h2]
      have hp := (ptErr_ok h2).1 p.ep (by simp [Pt.nums])
      have hlen := ptReg_len h2
      rw [he]
      refine C.cond_f rfl ?_
      refine C.skip ?_
      refine C.seq ?_
      refine C.seq ?_
      refine C.region ?_
      refine J.ldw 3 rfl rfl rfl rfl rfl Tryd.isAgg39 rfl Tryd.sizeOf39 ?_
      refine J.fld (k := 0) rfl rfl rfl rfl rfl Tryd.runUnderlying29 rfl rfl Tryd.sizeOf3 ?_
      refine J.ldo 2 rfl rfl rfl rfl rfl Tryd.isAgg3 rfl rfl ?_
      refine J.bin rfl rfl rfl rfl rfl rfl (fun w => rem2 _ hp.1) ?_
      refine J.bin rfl rfl rfl rfl rfl rfl (fun w => ra_mul (by omega)) ?_
      refine J.move rfl rfl rfl rfl rfl ?_
      rw [Int.mul_comm (p.ep % 2) 8]
      refine J.callrl rfl rfl rfl rfl rfl Tryd.call22 (fun w h => PutAll_calls w d _ _ _ _ (ptReg p) (h.bsa hs0) (h.wsa hc0) (h.rb 0 rfl) (by omega))  ?_
      rintro v31 R31 ⟨A1, c1, A2, c2, vs, fp, rfl, rfl⟩
      refine J.move rfl rfl rfl rfl rfl ?_
      refine J.ext rfl rfl rfl rfl rfl rfl ?_
      refine J.ext rfl rfl rfl rfl rfl rfl ?_
      first | refine J.stwc 6 rfl rfl rfl rfl rfl rfl Tryd.sizeOf39 (by first | rfl | assumption | simp [Value.cells, Value.oneCell']) rfl rfl ?_ | refine J.stw 6 rfl rfl rfl rfl rfl rfl Tryd.sizeOf39 (by first | rfl | assumption | simp [Value.cells, Value.oneCell']) rfl rfl ?_
      refine J.asg rfl rfl rfl rfl rfl ?_
      refine J.nil ?_
      refine C.seq ?_
      refine C.region ?_
      refine J.move rfl rfl rfl rfl rfl ?_
      refine J.bin rfl rfl rfl rfl rfl rfl (fun w => rfl) ?_
      refine J.nil ?_
      have hps : ptStore d p = if (dkPutAll d (8 * (p.ep % 2)) (ptReg p)).2 ≠ 0 then (dk0, (dkPutAll d (8 * (p.ep % 2)) (ptReg p)).2) else dkLand (fun _ => true) (dkPutAll d (8 * (p.ep % 2)) (ptReg p)).1 := by unfold ptStore; rw [if_neg h, if_neg (by omega)]
      refine C.cond rfl (fun h3 => ?_) (fun h3 => ?_)
      · have h3 : (dkPutAll d (8 * (p.ep % 2)) (ptReg p)).2 ≠ 0 := by simpa using h3
        rw [hps, if_pos h3]
        refine C.seq ?_
        refine C.region ?_
        refine J.bld (pl := #[(0, 1), (1, 1)]) (cells := #[_, _]) rfl rfl rfl rfl rfl Tryd.zeroValue39 Tryd.runUnderlying39 (fun w => by kernel_rfl) rfl ?_
        refine J.move rfl rfl rfl rfl rfl ?_
        first | refine J.stwc 4 rfl rfl rfl rfl rfl rfl Tryd.sizeOf39 (by first | rfl | assumption | simp [Value.cells, Value.oneCell']) rfl rfl ?_ | refine J.stw 4 rfl rfl rfl rfl rfl rfl Tryd.sizeOf39 (by first | rfl | assumption | simp [Value.cells, Value.oneCell']) rfl rfl ?_
        refine J.asg rfl rfl rfl rfl rfl ?_
        refine J.nil ?_
        refine C.ret ?_
        exact fin2 rfl (RV.cellw 4 rfl Tryd.isAgg39 rfl Tryd.sizeOf39) (RV.tmp rfl) (fun w' h => retDkZ h)
      · have h3 : ¬ (dkPutAll d (8 * (p.ep % 2)) (ptReg p)).2 ≠ 0 := by simpa using h3
        rw [hps, if_neg h3]
        refine C.skip ?_
        refine C.seq ?_
        refine C.region ?_
        refine J.ldw 6 rfl rfl rfl rfl rfl Tryd.isAgg39 rfl Tryd.sizeOf39 ?_
        refine J.callrl rfl rfl rfl rfl rfl Tryd.call23 (fun w h => Flush_calls w (dkPutAll d (8 * (p.ep % 2)) (ptReg p)).1 _ _ ((h.ord [0, 1] (by decide)).bsa_own) (h.rws 2 rfl))  ?_
        rintro v39 R39 ⟨A3, c3, A4, c4, vs2, fp2, rfl, rfl⟩
        refine J.ext rfl rfl rfl rfl rfl rfl ?_
        refine J.ext rfl rfl rfl rfl rfl rfl ?_
        first | refine J.stwc 7 rfl rfl rfl rfl rfl rfl Tryd.sizeOf39 (by first | rfl | assumption | simp [Value.cells, Value.oneCell']) rfl rfl ?_ | refine J.stw 7 rfl rfl rfl rfl rfl rfl Tryd.sizeOf39 (by first | rfl | assumption | simp [Value.cells, Value.oneCell']) rfl rfl ?_
        refine J.asg rfl rfl rfl rfl rfl ?_
        refine J.nil ?_
        refine C.ret ?_
        exact fin2 rfl (RV.cellw 7 rfl Tryd.isAgg39 rfl Tryd.sizeOf39) (RV.tmp rfl) (fun w' h => (h.ord [0, 1, 2] (by decide)).retL (List.Sublist.refl _) ⟨A3, c3, A4, c4, vs2, fp2, rfl, rfl⟩)
    · have he : ptEnc p = ([], ptErr p) := by unfold ptEnc; rw [if_neg h2]
      rw [he, show ptStore d p = (dk0, ptErr p) by unfold ptStore; rw [if_neg h, if_pos h2], show (ptErr p != 0) = true by simpa using h2]
      refine C.cond_t rfl ?_
      refine C.seq ?_
      refine C.region ?_
      refine J.bld (pl := #[(0, 1), (1, 1)]) (cells := #[_, _]) rfl rfl rfl rfl rfl Tryd.zeroValue39 Tryd.runUnderlying39 (fun w => by kernel_rfl) rfl ?_
      refine J.move rfl rfl rfl rfl rfl ?_
      first | refine J.stwc 1 rfl rfl rfl rfl rfl rfl Tryd.sizeOf39 (by first | rfl | assumption | simp [Value.cells, Value.oneCell']) rfl rfl ?_ | refine J.stw 1 rfl rfl rfl rfl rfl rfl Tryd.sizeOf39 (by first | rfl | assumption | simp [Value.cells, Value.oneCell']) rfl rfl ?_
      refine J.asg rfl rfl rfl rfl rfl ?_
      refine J.nil ?_
      refine C.ret ?_
      exact fin2 rfl (RV.cellw 1 rfl Tryd.isAgg39 rfl Tryd.sizeOf39) (RV.tmp rfl) (fun w' h => retDkZ h)
end Go.Proofs.YtiminmnmeknioaaDoor

/- ref17.Store. -/
set_option linter.unusedVariables false
namespace Go.Proofs.YtiminmnmeknioaaDoor
open Go Go.RowKit

theorem dkPutAll_len (d : Dk) (s : Int) (data : List UInt8) : (dkPutAll d s data).1.cache.length ≤ 4096 := by
  unfold dkPutAll
  split
  · exact Nat.zero_le _
  split
  · exact Nat.zero_le _
  split
  · exact Nat.zero_le _
  · rename_i h
    unfold dkPut
    rw [List.length_append, putW_len]
    omega


















































end Go.Proofs.YtiminmnmeknioaaDoor

/- point.Load. -/
set_option linter.unusedVariables false
namespace Go.Proofs.YtiminmnmeknioaaDoor
open Go Go.RowKit

def ptStep (b y : Pt × Int) : Pt × Int := if y.2 = 0 ∧ (b.2 ≠ 0 ∨ y.1.ep > b.1.ep) then (y.1, 0) else b
def ptReg1 (d : Dk) (i : Int) : Pt × Int := ptDec (dkGetAll d (i * 8) 8).1
def ptLoads (d : Dk) : Nat → Pt × Int
  | 0 => (ptZero, 21)
  | k + 1 => ptStep (ptLoads d k) (ptReg1 d k)
def ptLoad (d : Dk) : Pt × Int := if askErr d ≠ 0 then (ptZero, askErr d) else ptLoads d 2
theorem getAll_len (d : Dk) (s : Int) : (dkGetAll d s 8).1.length ≤ 512 := by
  unfold dkGetAll
  split
  · exact Nat.zero_le _
  split
  · exact Nat.zero_le _
  · rename_i hb hr
    have hb : dkBad d = false := by simpa using hb
    obtain ⟨r1, r2, r3, r4⟩ := of_decide_eq_true (show roomOk d.secs.length s 8 = true by simpa using hr)
    show (lasts d s 8).length ≤ 512
    rw [lasts_len hb r1 8 (by omega)]
    exact Nat.le_refl _
theorem Load_calls (w : World) (d : Dk) (sv cv : Value) (hs : BSA w sv d.secs) (hc : WSA w cv d.cache) (hg : ErrTy w) : Calls Tryd.prog 12 #[.agg #[sv, cv]] w (Ret w (PPt (ptLoad d).1 (ptLoad d).2)) := by
  have hs0 := hs
  have hc0 := hc
  obtain ⟨As, cs, rfl, -, -, -⟩ := hs.form
  obtain ⟨Ac, cc, rfl, -, -, -⟩ := hc.form
  refine calls_of_C Tryd.func12 rfl Tryd.ntmps12 (Nat.le_of_ble_eq_true rfl) ?_
  refine C.less (L' := [(0, _)]) ?_ (Sub.cons rfl (Sub.nil _)) (fun w h => h)
  refine C.seq ?_
  refine C.region ?_
  first | refine J.boxc rfl rfl rfl rfl rfl rfl (fun b1 => ?_) | refine J.box rfl rfl rfl rfl rfl (fun b1 => ?_)
  refine J.allocc rfl rfl rfl rfl Tryd.zeroValue29 rfl (fun b2 => ?_)
  refine J.asg rfl rfl rfl rfl rfl ?_
  refine J.nil ?_
  refine C.seq ?_
  refine C.seq ?_
  refine C.region ?_
  refine J.ldw 1 rfl rfl rfl rfl rfl Tryd.isAgg39 rfl Tryd.sizeOf39 ?_
  refine J.call0 rfl rfl rfl rfl rfl Tryd.call21 (fun w h => asked_calls w d _ _ (h.bsa hs0) (h.wsa hc0)) ?_
  refine J.asg rfl rfl rfl rfl rfl ?_
  refine J.nil ?_
  refine C.seq ?_
  refine C.region ?_
  refine J.move rfl rfl rfl rfl rfl ?_
  refine J.bin rfl rfl rfl rfl rfl rfl (fun w => rfl) ?_
  refine J.nil ?_
  refine C.cond rfl (fun h => ?_) (fun h => ?_)
  · have h : askErr d ≠ 0 := by simpa using h
    rw [show ptLoad d = (ptZero, askErr d) by unfold ptLoad; rw [if_pos h]]
    refine C.seq ?_
    refine C.region ?_
    refine J.bld (pl := #[(0, 1), (1, 1), (2, 1), (3, 1), (4, 1)]) (cells := #[_, _, _, _, _]) rfl rfl rfl rfl rfl Tryd.zeroValue29 Tryd.runUnderlying29 (fun w => by kernel_rfl) rfl ?_
    refine J.move rfl rfl rfl rfl rfl ?_
    first | refine J.stwc 0 rfl rfl rfl rfl rfl rfl Tryd.sizeOf29 (by first | rfl | assumption | simp [Value.cells, Value.oneCell']) rfl rfl ?_ | refine J.stw 0 rfl rfl rfl rfl rfl rfl Tryd.sizeOf29 (by first | rfl | assumption | simp [Value.cells, Value.oneCell']) rfl rfl ?_
    refine J.asg rfl rfl rfl rfl rfl ?_
    refine J.nil ?_
    refine C.ret ?_
    exact fin2 rfl (RV.cellw 0 rfl Tryd.isAgg29 rfl Tryd.sizeOf29) (RV.tmp rfl) (fun w' h => retPtZ h)
  · have h : ¬ askErr d ≠ 0 := by simpa using h
    rw [show ptLoad d = ptLoads d 2 by unfold ptLoad; rw [if_neg h]]
    refine C.skip ?_
    refine C.seq ?_
    refine C.region ?_
    refine J.bld (pl := #[(0, 1), (1, 1), (2, 1), (3, 1), (4, 1)]) (cells := #[_, _, _, _, _]) rfl rfl rfl rfl rfl Tryd.zeroValue29 Tryd.runUnderlying29 (fun w => by kernel_rfl) rfl ?_
    refine J.allocc rfl rfl rfl rfl Tryd.zeroValue29 rfl (fun b5 => ?_)
    first | refine J.stwc 0 rfl rfl rfl rfl rfl rfl Tryd.sizeOf29 (by first | rfl | assumption | simp [Value.cells, Value.oneCell']) rfl rfl ?_ | refine J.stw 0 rfl rfl rfl rfl rfl rfl Tryd.sizeOf29 (by first | rfl | assumption | simp [Value.cells, Value.oneCell']) rfl rfl ?_
    refine J.asg rfl rfl rfl rfl rfl ?_
    refine J.nil ?_
    refine C.seq ?_
    refine C.seq ?_
    refine C.region ?_
    refine J.move rfl rfl rfl rfl rfl ?_
    refine J.nil ?_
    refine C.block ?_
    refine C.loop (σ := Nat × Option Addr × Nat × (Nat → Prop)) (fun q => q.1 ≤ 2) (fun q => [(1, .pointer (some ⟨b1, 0, none⟩)), (2, .pointer (some ⟨b2, 0, none⟩)), (5, .pointer (some ⟨b5, 0, none⟩)), (6, vi (ptLoads d q.1).2), (19, vi (q.1 : Int))]) (fun q => [rbR q.2.2.2 (.slice q.2.1 (ptLoads d q.1).1.dt.length q.2.2.1) (ptLoads d q.1).1.dt, blk b5 #[vi (ptLoads d q.1).1.ep, vi (ptLoads d q.1).1.sq, vi (ptLoads d q.1).1.vw, vi (ptLoads d q.1).1.cm, .slice q.2.1 (ptLoads d q.1).1.dt.length q.2.2.1] 29, blk b2 #[vi 0, vi 0, vi 0, vi 0, .slice none 0 0] 29, blk b1 #[.slice As d.secs.length cs, .slice Ac d.cache.length cc] 39]) (fun q => 2 - q.1) (0, none, 0, fun _ => False) (by show 0 ≤ 2; omega) ?_ ?_ ?_
    · exact (Sub.cons rfl (Sub.cons rfl (Sub.cons rfl (Sub.cons rfl (Sub.cons rfl (Sub.nil _))))))
    · exact fun w h => nilRb h
    rintro ⟨i, A, c, fp⟩ hi
    dsimp only at hi ⊢
    generalize hq : ptLoads d i = q
    obtain ⟨⟨qe, qs, qv, qc, qd⟩, qcode⟩ := q
    dsimp only
    refine C.seq ?_
    refine C.region ?_
    refine J.bin rfl rfl rfl rfl rfl rfl (fun w => rfl) ?_
    refine J.nil ?_
    refine C.seq ?_
    refine C.cond rfl (fun h5 => ?_) (fun h5 => ?_)
    · have hlt : i < 2 := by have := of_decide_eq_true h5; omega
      refine C.skip ?_
      refine C.seq ?_
      refine C.block ?_
      refine C.seq ?_
      refine C.region ?_
      refine J.move rfl rfl rfl rfl rfl ?_
      refine J.asg rfl rfl rfl rfl rfl ?_
      refine J.nil ?_
      refine C.seq ?_
      refine C.region ?_
      refine J.ldw 3 rfl rfl rfl rfl rfl Tryd.isAgg39 rfl Tryd.sizeOf39 ?_
      refine J.move rfl rfl rfl rfl rfl ?_
      refine J.bin rfl rfl rfl rfl rfl rfl (fun w => ra_mul (by omega)) ?_
      refine J.callr rfl rfl rfl rfl rfl Tryd.call24 (fun w h => GetAll_calls w d _ _ _ 8 (h.bsa hs0) (h.wsa hc0))  ?_
      rintro v26 r26 ⟨Ag, cg, fg, -, -, rfl, rfl⟩
      refine J.move rfl rfl rfl rfl rfl ?_
      refine J.ext rfl rfl rfl rfl rfl rfl ?_
      refine J.ext rfl rfl rfl rfl rfl rfl ?_
      refine J.asg rfl rfl rfl rfl rfl ?_
      refine J.asg rfl rfl rfl rfl rfl ?_
      refine J.nil ?_
      refine C.seq ?_
      refine C.region ?_
      refine J.move rfl rfl rfl rfl rfl ?_
      refine J.callr rfl rfl rfl rfl rfl Tryd.call8 (fun w h => Decode_pt_calls w _ _ (h.rb 0 rfl) (Nat.le_trans (getAll_len _ _) (by omega)) (h.err hg))  ?_
      rintro v31 r31 ⟨Ad, cd, fd, rfl, rfl⟩
      have hsucc : ptLoads d (i + 1) = ptStep ((⟨qe, qs, qv, qc, qd⟩ : Pt), qcode) (ptDec (dkGetAll d ((i : Int) * 8) 8).1) := by rw [← hq]; rfl
      generalize hy : ptDec (dkGetAll d ((i : Int) * 8) 8).1 = y at hsucc ⊢
      obtain ⟨⟨ye, ys, yv, yc, yd⟩, ycode⟩ := y
      dsimp only
      refine J.move rfl rfl rfl rfl rfl ?_
      refine J.ext rfl rfl rfl rfl rfl rfl ?_
      refine J.ext rfl rfl rfl rfl rfl rfl ?_
      refine J.allocc rfl rfl rfl rfl Tryd.zeroValue29 rfl (fun b10 => ?_)
      first | refine J.stwc 0 rfl rfl rfl rfl rfl rfl Tryd.sizeOf29 (by first | rfl | assumption | simp [Value.cells, Value.oneCell']) rfl rfl ?_ | refine J.stw 0 rfl rfl rfl rfl rfl rfl Tryd.sizeOf29 (by first | rfl | assumption | simp [Value.cells, Value.oneCell']) rfl rfl ?_
      refine J.asg rfl rfl rfl rfl rfl ?_
      refine J.nil ?_
      refine C.seq ?_
      refine C.region ?_
      refine J.move rfl rfl rfl rfl rfl ?_
      refine J.bin rfl rfl rfl rfl rfl rfl (fun w => rfl) ?_
      refine J.move rfl rfl rfl rfl rfl ?_
      rcases Decidable.em (ycode = 0) with k1 | k1
      · rw [show (ycode == 0) = true by simpa using k1]
        refine J.want rfl rfl rfl rfl ?_
        refine J.move rfl rfl rfl rfl rfl ?_
        refine J.want rfl rfl rfl rfl ?_
        refine J.bin rfl rfl rfl rfl rfl rfl (fun w => rfl) ?_
        refine J.want rfl rfl rfl rfl ?_
        refine J.move rfl rfl rfl rfl rfl ?_
        rcases Decidable.em (qcode = 0) with k2 | k2
        · rw [show (qcode != 0) = false by simpa using k2]
          refine J.want rfl rfl rfl rfl ?_
          refine J.fld (k := 0) rfl rfl rfl rfl rfl Tryd.runUnderlying29 rfl rfl Tryd.sizeOf3 ?_
          refine J.want rfl rfl rfl rfl ?_
          refine J.ldo 0 rfl rfl rfl rfl rfl Tryd.isAgg3 rfl rfl ?_
          refine J.want rfl rfl rfl rfl ?_
          refine J.fld (k := 0) rfl rfl rfl rfl rfl Tryd.runUnderlying29 rfl rfl Tryd.sizeOf3 ?_
          refine J.want rfl rfl rfl rfl ?_
          refine J.ldo 4 rfl rfl rfl rfl rfl Tryd.isAgg3 rfl rfl ?_
          refine J.want rfl rfl rfl rfl ?_
          refine J.bin rfl rfl rfl rfl rfl rfl (fun w => rfl) ?_
          refine J.want rfl rfl rfl rfl ?_
          refine J.pick rfl rfl rfl rfl rfl rfl ?_
          refine J.pick rfl rfl rfl rfl rfl rfl ?_
          refine J.nil ?_
          refine C.cond rfl (fun k3 => ?_) (fun k3 => ?_)
          · have k3 : ye > qe := of_decide_eq_true k3
            have hcase : ycode = 0 ∧ (qcode ≠ 0 ∨ ye > qe) := ⟨k1, .inr k3⟩
            refine C.region ?_
            refine J.ldw 0 rfl rfl rfl rfl rfl Tryd.isAgg29 rfl Tryd.sizeOf29 ?_
            first | refine J.stwc 4 rfl rfl rfl rfl rfl rfl Tryd.sizeOf29 (by first | rfl | assumption | simp [Value.cells, Value.oneCell']) rfl rfl ?_ | refine J.stw 4 rfl rfl rfl rfl rfl rfl Tryd.sizeOf29 (by first | rfl | assumption | simp [Value.cells, Value.oneCell']) rfl rfl ?_
            refine J.asg rfl rfl rfl rfl rfl ?_
            refine J.nil ?_
            refine C.region ?_
            refine J.bin rfl rfl rfl rfl rfl rfl (fun w => ra_add (by omega)) ?_
            refine J.move rfl rfl rfl rfl rfl ?_
            refine J.nil ?_
            have hn : ptLoads d (i + 1) = ((⟨ye, ys, yv, yc, yd⟩ : Pt), 0) := by rw [hsucc]; unfold ptStep; rw [if_pos hcase]
            refine ⟨rfl, (i + 1, Ad, cd, fd), by dsimp only; omega, by dsimp only; omega, ?_, fun w h => ?_⟩
            · dsimp only; rw [hn]; exact (Sub.cons rfl (Sub.cons rfl (Sub.cons rfl (Sub.cons rfl (Sub.cons rfl (Sub.nil _))))))
            · dsimp only; rw [hn]; exact h.ord [1, 4, 5, 6] (by decide)
          · have k3 : ¬ ye > qe := of_decide_eq_false k3
            have hcase : ¬ (ycode = 0 ∧ (qcode ≠ 0 ∨ ye > qe)) := fun h => h.2.elim (fun h => h k2) k3
            refine C.skip ?_
            refine C.region ?_
            refine J.bin rfl rfl rfl rfl rfl rfl (fun w => ra_add (by omega)) ?_
            refine J.move rfl rfl rfl rfl rfl ?_
            refine J.nil ?_
            have hn : ptLoads d (i + 1) = ((⟨qe, qs, qv, qc, qd⟩ : Pt), qcode) := by rw [hsucc]; unfold ptStep; rw [if_neg hcase]
            refine ⟨rfl, (i + 1, A, c, fp), by dsimp only; omega, by dsimp only; omega, ?_, fun w h => ?_⟩
            · dsimp only; rw [hn]; exact (Sub.cons rfl (Sub.cons rfl (Sub.cons rfl (Sub.cons rfl (Sub.cons rfl (Sub.nil _))))))
            · dsimp only; rw [hn]; exact h.ord [3, 4, 5, 6] (by decide)
        · rw [show (qcode != 0) = true by simpa using k2]
          refine J.pass rfl rfl rfl rfl rfl (by intro h; cases h) ?_
          refine J.pass rfl rfl rfl rfl rfl (by intro h; cases h) ?_
          refine J.pass rfl rfl rfl rfl rfl (by intro h; cases h) ?_
          refine J.pass rfl rfl rfl rfl rfl (by intro h; cases h) ?_
          refine J.pass rfl rfl rfl rfl rfl (by intro h; cases h) ?_
          refine J.want rfl rfl rfl rfl ?_
          refine J.pick rfl rfl rfl rfl rfl rfl ?_
          refine J.pick rfl rfl rfl rfl rfl rfl ?_
          refine J.nil ?_
          refine C.cond_t rfl ?_
          refine C.region ?_
          refine J.ldw 0 rfl rfl rfl rfl rfl Tryd.isAgg29 rfl Tryd.sizeOf29 ?_
          first | refine J.stwc 4 rfl rfl rfl rfl rfl rfl Tryd.sizeOf29 (by first | rfl | assumption | simp [Value.cells, Value.oneCell']) rfl rfl ?_ | refine J.stw 4 rfl rfl rfl rfl rfl rfl Tryd.sizeOf29 (by first | rfl | assumption | simp [Value.cells, Value.oneCell']) rfl rfl ?_
          refine J.asg rfl rfl rfl rfl rfl ?_
          refine J.nil ?_
          refine C.region ?_
          refine J.bin rfl rfl rfl rfl rfl rfl (fun w => ra_add (by omega)) ?_
          refine J.move rfl rfl rfl rfl rfl ?_
          refine J.nil ?_
          have hcase : ycode = 0 ∧ (qcode ≠ 0 ∨ ye > qe) := ⟨k1, .inl k2⟩
          have hn : ptLoads d (i + 1) = ((⟨ye, ys, yv, yc, yd⟩ : Pt), 0) := by rw [hsucc]; unfold ptStep; rw [if_pos hcase]
          refine ⟨rfl, (i + 1, Ad, cd, fd), by dsimp only; omega, by dsimp only; omega, ?_, fun w h => ?_⟩
          · dsimp only; rw [hn]; exact (Sub.cons rfl (Sub.cons rfl (Sub.cons rfl (Sub.cons rfl (Sub.cons rfl (Sub.nil _))))))
          · dsimp only; rw [hn]; exact h.ord [1, 4, 5, 6] (by decide)
      · rw [show (ycode == 0) = false by simpa using k1]
        refine J.pass rfl rfl rfl rfl rfl (by intro h; cases h) ?_
        refine J.pass rfl rfl rfl rfl rfl (by intro h; cases h) ?_
        refine J.pass rfl rfl rfl rfl rfl (by intro h; cases h) ?_
        refine J.pass rfl rfl rfl rfl rfl (by intro h; cases h) ?_
        refine J.pass rfl rfl rfl rfl rfl (by intro h; cases h) ?_
        refine J.pass rfl rfl rfl rfl rfl (by intro h; cases h) ?_
        refine J.pass rfl rfl rfl rfl rfl (by intro h; cases h) ?_
        refine J.pass rfl rfl rfl rfl rfl (by intro h; cases h) ?_
        refine J.pass rfl rfl rfl rfl rfl (by intro h; cases h) ?_
        refine J.pick rfl rfl rfl rfl rfl rfl ?_
        refine J.nil ?_
        refine C.cond_f rfl ?_
        refine C.skip ?_
        refine C.region ?_
        refine J.bin rfl rfl rfl rfl rfl rfl (fun w => ra_add (by omega)) ?_
        refine J.move rfl rfl rfl rfl rfl ?_
        refine J.nil ?_
        have hcase : ¬ (ycode = 0 ∧ (qcode ≠ 0 ∨ ye > qe)) := fun h => k1 h.1
        have hn : ptLoads d (i + 1) = ((⟨qe, qs, qv, qc, qd⟩ : Pt), qcode) := by rw [hsucc]; unfold ptStep; rw [if_neg hcase]
        refine ⟨rfl, (i + 1, A, c, fp), by dsimp only; omega, by dsimp only; omega, ?_, fun w h => ?_⟩
        · dsimp only; rw [hn]; exact (Sub.cons rfl (Sub.cons rfl (Sub.cons rfl (Sub.cons rfl (Sub.cons rfl (Sub.nil _))))))
        · dsimp only; rw [hn]; exact h.ord [3, 4, 5, 6] (by decide)
    · have hge : i = 2 := by have := of_decide_eq_false h5; omega
      subst hge
      rw [hq]
      refine C.exit rfl ?_
      refine C.seq ?_
      refine C.region ?_
      refine J.ldw 1 rfl rfl rfl rfl rfl Tryd.isAgg29 rfl Tryd.sizeOf29 ?_
      refine J.move rfl rfl rfl rfl rfl ?_
      first | refine J.stwc 2 rfl rfl rfl rfl rfl rfl Tryd.sizeOf29 (by first | rfl | assumption | simp [Value.cells, Value.oneCell']) rfl rfl ?_ | refine J.stw 2 rfl rfl rfl rfl rfl rfl Tryd.sizeOf29 (by first | rfl | assumption | simp [Value.cells, Value.oneCell']) rfl rfl ?_
      refine J.asg rfl rfl rfl rfl rfl ?_
      refine J.nil ?_
      refine C.ret ?_
      exact fin2 rfl (RV.cellw 2 rfl Tryd.isAgg29 rfl Tryd.sizeOf29) (RV.tmp rfl) (fun w' h => h.ret 0 rfl ⟨A, c, fp, rfl, rfl⟩)
end Go.Proofs.YtiminmnmeknioaaDoor

/- ref17.Load. -/
set_option linter.unusedVariables false
namespace Go.Proofs.YtiminmnmeknioaaDoor
open Go Go.RowKit

theorem ptStep2 (x y : Pt × Int) : ptStep (ptStep (ptZero, 21) x) y = if x.2 ≠ 0 ∧ y.2 ≠ 0 then (ptZero, 21) else if x.2 ≠ 0 ∨ (y.2 = 0 ∧ y.1.ep > x.1.ep) then (y.1, 0) else (x.1, 0) := by
  obtain ⟨x, a⟩ := x
  obtain ⟨y, b⟩ := y
  unfold ptStep
  dsimp only
  by_cases ha : a = 0
  · by_cases hb : b = 0
    · subst ha hb
      simp
    · subst ha
      simp [hb]
  · by_cases hb : b = 0
    · subst hb
      simp [ha]
    · simp [ha, hb]
theorem ptLoads2 (d : Dk) : ptLoads d 2 = ptStep (ptStep (ptZero, 21) (ptDec (dkGetAll d 0 8).1)) (ptDec (dkGetAll d 8 8).1) := rfl


























































































end Go.Proofs.YtiminmnmeknioaaDoor

/- What was written is read back: plain lists. -/
set_option linter.unusedVariables false
namespace Go.Proofs.YtiminmnmeknioaaDoor

theorem ofNat8 {n : Nat} (h : n < 256) : (UInt8.ofNat n).toNat = n := by
  rw [UInt8.toNat_ofNat']
  exact Nat.mod_eq_of_lt h
theorem pG_uv (r : List UInt8) : ∀ (k m n a : Nat), m < k → m * 2 ^ n < 2 ^ 64 → (n = 0 ∨ 0 < m) → n ≤ 63 → pG (uv m ++ r) n a = .ok (a + m * 2 ^ n, r) := by
  intro k
  induction k with
  | zero => intro m n a h; omega
  | succ k ih =>
    intro m n a hk hm hn h63
    by_cases h : m < 128
    · have hx := ofNat8 (n := m) (by omega)
      rw [uv_small h, List.singleton_append, pG_cons, hx, if_neg, if_pos h]
      rintro (⟨h1, h2⟩ | ⟨h1, h2⟩)
      · subst h1
        have : 2 * 2 ^ 63 ≤ m * 2 ^ 63 := Nat.mul_le_mul_right _ h2
        omega
      · omega
    · have hx := ofNat8 (n := m % 128 + 128) (by omega)
      have hn7 : n + 7 < 64 := by
        have h1 : 2 ^ (n + 7) ≤ m * 2 ^ n := by rw [Nat.pow_add, Nat.mul_comm]; exact Nat.mul_le_mul_right _ (by omega)
        exact (Nat.pow_lt_pow_iff_right (by omega)).1 (Nat.lt_of_le_of_lt h1 hm)
      rw [uv_big h, List.cons_append, pG_cons, hx, if_neg (by omega), if_neg (by omega), ih (m / 128) (n + 7) _ (by omega) ?_ (.inr (by omega)) (by omega)]
      · congr 2
        rw [show (m % 128 + 128) % 128 = m % 128 by omega, Nat.pow_add, Nat.add_assoc]
        congr 1
        have : m / 128 * (2 ^ n * 2 ^ 7) = (m / 128 * 128) * 2 ^ n := by rw [Nat.mul_assoc]; congr 1; rw [Nat.mul_comm]
        rw [this, ← Nat.add_mul]
        congr 1
        omega
      · rw [Nat.pow_add]
        have : m / 128 * (2 ^ n * 2 ^ 7) = (m / 128 * 128) * 2 ^ n := by rw [Nat.mul_assoc]; congr 1; rw [Nat.mul_comm]
        rw [this]
        exact Nat.lt_of_le_of_lt (Nat.mul_le_mul_right _ (by omega)) hm
theorem pG_uv0 (m : Nat) (r : List UInt8) (h : m < 2 ^ 64) : pG (uv m ++ r) 0 0 = .ok (m, r) := by
  have := pG_uv r (m + 1) m 0 0 (by omega) (by simpa using h) (.inl rfl) (by omega)
  simpa using this
theorem unf_fold {n : Int} (h : InR n) : unf (fold n) = n := by
  unfold InR at h
  unfold unf fold
  split <;> split <;> omega
theorem pNumsL_rec (r : List UInt8) : ∀ (nums acc : List Int), (∀ n ∈ nums, InR n) → pNumsL nums.length acc (recNums nums ++ r) = .ok (acc ++ nums, r) := by
  intro nums
  induction nums with
  | nil => intro acc _; simp [pNumsL, recNums]
  | cons n nums ih =>
    intro acc h
    have hn := h n (by simp)
    have e : recNums (n :: nums) ++ r = uv (fold n) ++ (recNums nums ++ r) := by unfold recNums; rw [List.flatMap_cons, List.append_assoc]
    rw [e, List.length_cons, pNumsL_ok (pG_uv0 _ _ (fold_lt hn)), unf_fold hn, ih _ (fun m hm => h m (by simp [hm]))]
    simp
theorem pText_rec (t r : List UInt8) (h : t.length ≤ 4096) : pText (uv t.length ++ t ++ r) = .ok (t, r) := by
  unfold pText
  rw [List.append_assoc, pG_uv0 _ _ (by omega)]
  dsimp only
  rw [if_neg (by omega)]
  unfold pTake
  rw [if_neg (by simp), List.take_left, List.drop_left]
theorem pTextsL_rec (r : List UInt8) : ∀ (ts acc : List (List UInt8)), (∀ t ∈ ts, t.length ≤ 4096) → pTextsL ts.length acc (recTexts ts ++ r) = .ok (acc ++ ts, r) := by
  intro ts
  induction ts with
  | nil => intro acc _; simp [pTextsL, recTexts]
  | cons t ts ih =>
    intro acc h
    have e : recTexts (t :: ts) ++ r = uv t.length ++ t ++ (recTexts ts ++ r) := by unfold recTexts; rw [List.flatMap_cons, List.append_assoc]
    rw [e, List.length_cons, pTextsL_ok (pText_rec t _ (h t (by simp))), ih _ (fun m hm => h m (by simp [hm]))]
    simp
theorem pRec_body {kind : Nat} {nums : List Int} {texts : List (List UInt8)} (hk : kind < 256) (hn : nums.length ≤ 64) (ht : texts.length ≤ 64) (h1 : ∀ n ∈ nums, InR n) (h2 : ∀ t ∈ texts, t.length ≤ 4096) : pRec (recBody (kind : Int) nums texts) = .ok ((kind : Int), nums, texts) := by
  have e : recBody (kind : Int) nums texts = UInt8.ofNat kind :: (UInt8.ofNat nums.length :: (recNums nums ++ (UInt8.ofNat texts.length :: (recTexts texts ++ [])))) := by
    unfold recBody
    simp
  have h3 : pNums (UInt8.ofNat nums.length :: (recNums nums ++ (UInt8.ofNat texts.length :: (recTexts texts ++ [])))) = .ok (nums, UInt8.ofNat texts.length :: (recTexts texts ++ [])) := by
    rw [pNums_ok (n := nums.length) (r := recNums nums ++ (UInt8.ofNat texts.length :: (recTexts texts ++ []))) (by simp only [pCount]; rw [ofNat8 (by omega), if_neg (by omega)]), pNumsL_rec _ _ _ h1]
    simp
  have h4 : pTexts (UInt8.ofNat texts.length :: (recTexts texts ++ [])) = .ok (texts, []) := by
    rw [pTexts_ok (n := texts.length) (r := recTexts texts ++ []) (by simp only [pCount]; rw [ofNat8 (by omega), if_neg (by omega)]), pTextsL_rec _ _ _ h2]
    simp
  rw [e]
  unfold pRec
  simp only [pOctet]
  rw [h3]
  dsimp only
  rw [h4]
  dsimp only
  rw [if_neg (by simp), ofNat8 hk]
theorem le4_len (c : UInt32) : (le4 c).length = 4 := rfl
theorem opened_sealed (xs : List UInt8) : opened (xs ++ le4 (crcSum xs)) = (xs, 0) := by
  have h1 : (xs ++ le4 (crcSum xs)).length - 4 = xs.length := by rw [List.length_append, le4_len]; omega
  unfold opened
  rw [h1, List.take_left, List.drop_left, if_neg (by rw [List.length_append, le4_len]; omega), if_pos rfl]
theorem ptBody {p : Pt} (h : ptErr p = 0) : ptRec p = recBody 7 p.nums [p.dt] ++ le4 (crcSum (recBody 7 p.nums [p.dt])) := by
  have h0 := (ptRec_eq h).1
  unfold encRec at h0
  split at h0
  · injection h0 with h1 h2; exact h1.symm
  · injection h0 with h1 h2; exact absurd h2 (by assumption)
theorem decRec_pt {p : Pt} (h : ptErr p = 0) : decRec (ptRec p) = .ok (7, p.nums, [p.dt]) := by
  obtain ⟨hn, hd⟩ := ptErr_ok h
  unfold decRec
  rw [ptBody h, opened_sealed, if_neg (by simp)]
  exact pRec_body (kind := 7) (by omega) (by simp [Pt.nums]) (by simp) (fun n hn' => by have := hn n hn'; unfold InR; omega) (fun t ht => by rw [List.mem_singleton] at ht; subst ht; omega)
theorem all0_rep (n : Nat) : all0 (List.replicate n 0) := fun x hx => (List.mem_replicate.1 hx).2
/-- A point is read back. -/
theorem ptDec_reg {p : Pt} (h : ptErr p = 0) : ptDec (ptReg p) = (p, 0) := by
  have hl := (ptRec_eq h).2
  have e : ptReg p = UInt8.ofNat ((ptRec p).length / 256) :: UInt8.ofNat (ptRec p).length :: (ptRec p ++ List.replicate (510 - (ptRec p).length) 0) := by unfold ptReg be2; simp
  have hN : (UInt8.ofNat ((ptRec p).length / 256)).toNat * 256 + (UInt8.ofNat (ptRec p).length).toNat = (ptRec p).length := by
    rw [ofNat8 (by omega), UInt8.toNat_ofNat']
    omega
  rw [e, ptDec_go (by simp; omega) (by rw [hN]; omega), hN, List.take_left, List.drop_left, decRec_pt h]
  unfold ptOfRec
  dsimp only [Pt.nums]
  rw [if_neg (by simp), if_neg (by rw [show (⟨p.ep, p.sq, p.vw, p.cm, p.dt⟩ : Pt) = p from rfl, h]; simp), show decide (¬ all0 (List.replicate (510 - (ptRec p).length) 0)) = false from decide_eq_false (fun h => h (all0_rep _))]
  rfl
end Go.Proofs.YtiminmnmeknioaaDoor
/- undercroftplain. -/
set_option linter.unusedVariables false
namespace Go.Proofs.YtiminmnmeknioaaDoor
open Go Go.RowKit

theorem u8_ne (a b : UInt8) : ((a.toNat : Int) != (b.toNat : Int)) = decide (a ≠ b) := by
  by_cases h : a = b
  · subst h; simp
  · have : (a.toNat : Int) ≠ (b.toNat : Int) := fun e => h (UInt8.toNat_inj.1 (by omega))
    simp [h, this]
theorem SameBytes_calls (w : World) (v1 v2 : Value) (xs ys : List UInt8) (h1 : BA w v1 xs) (h2 : BA w v2 ys) : Calls Tryd.prog 20 #[v1, v2] w (Ret0 w (.bool (decide (xs = ys)))) := by
  obtain ⟨A, c, rfl, a1, a2, a3⟩ := h1.form
  obtain ⟨B, c', rfl, b1, b2, b3⟩ := h2.form
  refine calls_of_C Tryd.func20 rfl Tryd.ntmps20 (Nat.le_of_ble_eq_true rfl) ?_
  refine C.less (L' := [(0, _), (1, _)]) ?_ (Sub.cons rfl (Sub.cons rfl (Sub.nil _))) (fun w h => h)
  refine C.seq ?_
  refine C.region ?_
  refine J.asg rfl rfl rfl rfl rfl ?_
  refine J.nil ?_
  refine C.seq ?_
  refine C.seq ?_
  refine C.region ?_
  refine J.move rfl rfl rfl rfl rfl ?_
  refine J.len rfl rfl rfl rfl rfl Tryd.runUnderlying22 ?_
  refine J.move rfl rfl rfl rfl rfl ?_
  refine J.len rfl rfl rfl rfl rfl Tryd.runUnderlying22 ?_
  refine J.bin rfl rfl rfl rfl rfl rfl (fun w => rfl) ?_
  refine J.nil ?_
  refine C.cond rfl (fun h => ?_) (fun h => ?_)
  · have h : xs.length ≠ ys.length := by simp at h; omega
    rw [dec_f (show ¬ xs = ys from fun e => h (by rw [e]))]
    refine C.seq ?_
    refine C.region ?_
    refine J.asg rfl rfl rfl rfl rfl ?_
    refine J.nil ?_
    refine C.ret ?_
    exact fin1 rfl (RV.tmp rfl) (fun w' h => h.ret0)
  · have h : xs.length = ys.length := by simp at h; omega
    refine C.skip ?_
    refine C.seq ?_
    refine C.seq ?_
    refine C.region ?_
    refine J.asg rfl rfl rfl rfl rfl ?_
    refine J.nil ?_
    refine C.block ?_
    refine C.loop (σ := Nat) (fun i => i ≤ xs.length ∧ xs.take i = ys.take i) (fun i => [(0, .slice A xs.length c), (1, .slice B ys.length c'), (5, vi (i : Int))]) (fun i => []) (fun i => xs.length - i) 0 ⟨Nat.zero_le _, rfl⟩ ?_ ?_ ?_
    · exact (Sub.cons rfl (Sub.cons rfl (Sub.cons rfl (Sub.nil _))))
    · exact fun w h => h
    rintro i ⟨hi, hpre⟩
    dsimp only
    refine C.seq ?_
    refine C.seq ?_
    refine C.region ?_
    refine J.move rfl rfl rfl rfl rfl ?_
    refine J.move rfl rfl rfl rfl rfl ?_
    refine J.len rfl rfl rfl rfl rfl Tryd.runUnderlying22 ?_
    refine J.bin rfl rfl rfl rfl rfl rfl (fun w => rfl) ?_
    refine J.nil ?_
    refine C.cond rfl (fun h5 => ?_) (fun h5 => ?_)
    · have hlt : i < xs.length := by have := of_decide_eq_true h5; omega
      obtain ⟨x, hx⟩ : ∃ x, xs[i]? = some x := ⟨_, List.getElem?_eq_getElem hlt⟩
      obtain ⟨y, hy⟩ : ∃ y, ys[i]? = some y := ⟨_, List.getElem?_eq_getElem (by omega)⟩
      obtain ⟨ba, oa, rfl, -, ha⟩ := a3 (by omega)
      obtain ⟨bb, ob, rfl, -, hb⟩ := b3 (by omega)
      refine C.skip ?_
      refine C.seq ?_
      refine C.block ?_
      refine C.seq ?_
      refine C.regionD0 9 (by kernel_rfl) ?_
      refine JD.take 0 rfl rfl rfl rfl (by kernel_rfl) (fun w h => h) (R.move rfl rfl) ?_
      refine JD.take 1 rfl rfl rfl rfl (by kernel_rfl) (fun w h => h) (R.move rfl rfl) ?_
      refine JD.take 2 rfl rfl rfl rfl (by kernel_rfl) (fun w h => h) (by first | exact (R.idx1 rfl rfl rfl Tryd.runUnderlying22 Tryd.sizeOf5 (by omega)) | exact (R.idx rfl rfl rfl Tryd.runUnderlying22 Tryd.sizeOf5 (by omega))) ?_
      refine JD.take 4 rfl rfl rfl rfl (by kernel_rfl) (fun w h => h) (R.move rfl rfl) ?_
      refine JD.take 5 rfl rfl rfl rfl (by kernel_rfl) (fun w h => h) (R.move rfl rfl) ?_
      refine JD.take 6 rfl rfl rfl rfl (by kernel_rfl) (fun w h => h) (by first | exact (R.idx1 rfl rfl rfl Tryd.runUnderlying22 Tryd.sizeOf5 (by omega)) | exact (R.idx rfl rfl rfl Tryd.runUnderlying22 Tryd.sizeOf5 (by omega))) ?_
      refine JD.take 3 rfl rfl rfl rfl (by kernel_rfl) (fun w h => h) (R.ld rfl rfl Tryd.isAgg5 (fun w h => cellOld h (ha i x hx))) ?_
      refine JD.take 7 rfl rfl rfl rfl (by kernel_rfl) (fun w h => h) (R.ld rfl rfl Tryd.isAgg5 (fun w h => cellOld h (hb i y hy))) ?_
      refine JD.take 8 rfl rfl rfl rfl (by kernel_rfl) (fun w h => h) (R.bin rfl rfl rfl (fun w => rfl)) ?_
      refine JD.done (by kernel_rfl) ?_
      rw [u8_ne]
      refine C.cond rfl (fun h6 => ?_) (fun h6 => ?_)
      · have h6 : x ≠ y := of_decide_eq_true h6
        rw [dec_f (show ¬ xs = ys from fun e => h6 (by rw [e] at hx; rw [hx] at hy; injection hy))]
        refine C.seq ?_
        refine C.region ?_
        refine J.asg rfl rfl rfl rfl rfl ?_
        refine J.nil ?_
        refine C.ret ?_
        exact fin1 rfl (RV.tmp rfl) (fun w' h => h.ret0)
      · have h6 : x = y := by simpa using h6
        refine C.skip ?_
        refine C.region ?_
        refine J.move rfl rfl rfl rfl rfl ?_
        refine J.bin rfl rfl rfl rfl rfl rfl (fun w => ra_add (by omega)) ?_
        refine J.asg rfl rfl rfl rfl rfl ?_
        refine J.nil ?_
        exact ⟨rfl, i + 1, ⟨hlt, by rw [take_snoc hx, take_snoc hy, hpre, h6]⟩, by omega, (Sub.cons rfl (Sub.cons rfl (Sub.cons rfl (Sub.nil _)))), fun w h => h⟩
    · have hge : i = xs.length := by have := of_decide_eq_false h5; omega
      subst hge
      rw [List.take_length, List.take_of_length_le (by omega)] at hpre
      rw [dec_t hpre]
      refine C.exit rfl ?_
      refine C.seq ?_
      refine C.region ?_
      refine J.asg rfl rfl rfl rfl rfl ?_
      refine J.nil ?_
      refine C.ret ?_
      exact fin1 rfl (RV.tmp rfl) (fun w' h => h.ret0)





















































theorem CopyBytes_row (w : World) (v : Value) (xs : List UInt8) (hx : BA w v xs) (hs : xs.length ≤ 140737488355328) : Calls Tryd.prog 17 #[v] w (Ret w (PRow 5 xs)) := by
  obtain ⟨A, c, rfl, h1, h2, h3⟩ := hx.form
  refine calls_of_C Tryd.func17 rfl Tryd.ntmps17 (Nat.le_of_ble_eq_true rfl) ?_
  refine C.less (L' := [(0, _)]) ?_ (Sub.cons rfl (Sub.nil _)) (fun w h => h)
  refine C.seq ?_
  refine C.region ?_
  refine J.asg rfl rfl rfl rfl rfl ?_
  refine J.nil ?_
  refine C.seq ?_
  refine C.region ?_
  refine J.asg rfl rfl rfl rfl rfl ?_
  refine J.nil ?_
  refine C.seq ?_
  refine C.region ?_
  refine J.move rfl rfl rfl rfl rfl ?_
  refine J.move rfl rfl rfl rfl rfl ?_
  refine J.app0 rfl rfl rfl rfl rfl rfl Tryd.underlying22 inf5 rfl rfl rfl (news := xs.map vu8) (by simp) (fun w h hn => srcB (h.ba hx) hn) (all_u8 xs) (by omega) (fun v6 => ?_)
  refine J.asg rfl rfl rfl rfl rfl ?_
  refine J.nil ?_
  refine C.ret ?_
  exact fin1 rfl (RV.tmp rfl) (fun w' h => h.ret 0 rfl rfl)




































end Go.Proofs.YtiminmnmeknioaaDoor

/- undercroftlaw03.Of, Alike. -/
set_option linter.unusedVariables false
namespace Go.Proofs.YtiminmnmeknioaaDoor
open Go Go.RowKit

/-  A disk that is no larger than inputs may be. -/
def DkSmall (d : Dk) : Prop := d.secs.length ≤ 1048576 ∧ d.cache.length ≤ 1048576 ∧ (∀ x ∈ d.secs, x.length ≤ 1048576) ∧ ∀ x ∈ d.cache, x.2.length ≤ 1048576
/-  A disk to be read, in memory of the call's own. -/
def PRd2 (d : Dk) : Value → List Res → Prop := fun v Rs => ∃ A1 c1 A2 c2 fp1 fp2, Rs = [rbsR fp1 (.slice A1 d.secs.length c1) d.secs, rwsR fp2 (.slice A2 d.cache.length c2) d.cache] ∧ v = .agg #[.slice A1 d.secs.length c1, .slice A2 d.cache.length c2]

















































def dkAlike (a b : Dk) : Int := if a.secs = b.secs ∧ a.cache = b.cache then 0 else 1































































































end Go.Proofs.YtiminmnmeknioaaDoor

/- undercroftlaw17.of, num, same; Spoil. -/
set_option linter.unusedVariables false
namespace Go.Proofs.YtiminmnmeknioaaDoor
open Go Go.RowKit

theorem num_calls (w : World) (e : Int) : Calls Tryd.prog 7 #[vi e] w (Ret0 w (vi e)) := by
  refine calls_of_C Tryd.func7 rfl Tryd.ntmps7 (Nat.le_of_ble_eq_true rfl) ?_
  refine C.less (L' := [(0, _)]) ?_ (Sub.cons rfl (Sub.nil _)) (fun w h => h)
  refine C.seq ?_
  refine C.region ?_
  refine J.asg rfl rfl rfl rfl rfl ?_
  refine J.nil ?_
  refine C.seq ?_
  refine C.region ?_
  refine J.move rfl rfl rfl rfl rfl ?_
  refine J.asg rfl rfl rfl rfl rfl ?_
  refine J.nil ?_
  refine C.ret ?_
  exact fin1 rfl (RV.tmp rfl) (fun w' h => h.ret0)
def PPr (p : Pt) : Value → Res → Prop := fun v r => ∃ A c, v = .agg #[vi p.ep, vi p.sq, vi p.vw, vi p.cm, .slice A p.dt.length c] ∧ r = rowR 5 1 (.slice A p.dt.length c) p.dt.length (p.dt.map vu8)
theorem of_pt_calls (w : World) (p : Pt) (dv : Value) (hx : BA w dv p.dt) (hl : p.dt.length ≤ 140737488355328) : Calls Tryd.prog 6 #[.agg #[vi p.ep, vi p.sq, vi p.vw, vi p.cm, dv]] w (Ret w (PPr p)) := by
  have hx0 := hx
  obtain ⟨A, c, rfl, -, -, -⟩ := hx.form
  refine calls_of_C Tryd.func6 rfl Tryd.ntmps6 (Nat.le_of_ble_eq_true rfl) ?_
  refine C.less (L' := [(0, _)]) ?_ (Sub.cons rfl (Sub.nil _)) (fun w h => h)
  refine C.seq ?_
  refine C.region ?_
  first | refine J.boxc rfl rfl rfl rfl rfl rfl (fun b1 => ?_) | refine J.box rfl rfl rfl rfl rfl (fun b1 => ?_)
  refine J.allocc rfl rfl rfl rfl Tryd.zeroValue29 rfl (fun b2 => ?_)
  refine J.nil ?_
  refine C.seq ?_
  refine C.regionD0 12 (by kernel_rfl) ?_
  refine JD.take 0 rfl rfl rfl rfl (by kernel_rfl) (fun w h => h) (R.fld (k := 0) rfl rfl Tryd.runUnderlying24 rfl rfl Tryd.sizeOf3) ?_
  refine JD.take 1 rfl rfl rfl rfl (by kernel_rfl) (fun w h => h) (R.ld rfl rfl Tryd.isAgg3 (fun w h => cellL h 1 rfl rfl)) ?_
  refine JD.take 2 rfl rfl rfl rfl (by kernel_rfl) (fun w h => h) (R.fld (k := 1) rfl rfl Tryd.runUnderlying24 rfl rfl Tryd.sizeOf3) ?_
  refine JD.take 3 rfl rfl rfl rfl (by kernel_rfl) (fun w h => h) (R.ld rfl rfl Tryd.isAgg3 (fun w h => cellL h 1 rfl rfl)) ?_
  refine JD.take 4 rfl rfl rfl rfl (by kernel_rfl) (fun w h => h) (R.fld (k := 2) rfl rfl Tryd.runUnderlying24 rfl rfl Tryd.sizeOf3) ?_
  refine JD.take 5 rfl rfl rfl rfl (by kernel_rfl) (fun w h => h) (R.ld rfl rfl Tryd.isAgg3 (fun w h => cellL h 1 rfl rfl)) ?_
  refine JD.take 6 rfl rfl rfl rfl (by kernel_rfl) (fun w h => h) (R.fld (k := 3) rfl rfl Tryd.runUnderlying24 rfl rfl Tryd.sizeOf3) ?_
  refine JD.take 7 rfl rfl rfl rfl (by kernel_rfl) (fun w h => h) (R.ld rfl rfl Tryd.isAgg3 (fun w h => cellL h 1 rfl rfl)) ?_
  refine JD.take 8 rfl rfl rfl rfl (by kernel_rfl) (fun w h => h) (R.fld (k := 4) rfl rfl Tryd.runUnderlying24 rfl rfl Tryd.sizeOf22) ?_
  refine JD.take 9 rfl rfl rfl rfl (by kernel_rfl) (fun w h => h) (R.ld rfl rfl Tryd.isAgg22 (fun w h => cellL h 1 rfl rfl)) ?_
  refine JD.step 10 rfl (by kernel_rfl) ?_
  refine J.callr rfl rfl rfl rfl rfl Tryd.call17 (fun w h => CopyBytes_row w _ p.dt (h.ba hx0) hl)  ?_
  rintro v13 r13 rfl
  refine J.fact (fun w h => row_form (h.get 0 rfl)) ?_
  rintro ⟨A13, c13, rfl, -, -⟩
  refine J.nil ⟨(fun _ w h => (h.sub ((List.Sublist.refl _).cons _))), ?_⟩
  refine JD.take 11 rfl rfl rfl rfl (by kernel_rfl) (fun w h => (h.sub ((List.Sublist.refl _).cons _))) (R.bld (pl := #[(0, 1), (1, 1), (2, 1), (3, 1), (4, 1)]) (cells := #[_, _, _, _, _]) rfl rfl Tryd.zeroValue29 Tryd.runUnderlying29 (fun w => by kernel_rfl) rfl) ?_
  refine JD.step 12 rfl (by kernel_rfl) ?_
  first | refine J.stwc 1 rfl rfl rfl rfl rfl rfl Tryd.sizeOf29 (by first | rfl | assumption | simp [Value.cells, Value.oneCell']) rfl rfl ?_ | refine J.stw 1 rfl rfl rfl rfl rfl rfl Tryd.sizeOf29 (by first | rfl | assumption | simp [Value.cells, Value.oneCell']) rfl rfl ?_
  refine J.nil ⟨(fun h => by cases h), ?_⟩
  refine JD.done (by kernel_rfl) ?_
  refine C.ret ?_
  exact fin1 rfl (RV.cellw 1 rfl Tryd.isAgg29 rfl Tryd.sizeOf29) (fun w' h => h.ret 0 rfl ⟨A13, c13, rfl, rfl⟩)
def ptEq (a b : Pt) : Bool := decide (a.ep = b.ep) && decide (a.sq = b.sq) && decide (a.vw = b.vw) && decide (a.cm = b.cm) && decide (a.dt = b.dt)
theorem ptEq_refl (a : Pt) : ptEq a a = true := by unfold ptEq; simp
theorem beq_dec (a b : Int) : (a == b) = decide (a = b) := rfl
theorem same_calls (w : World) (a b : Pt) (v1 v2 : Value) (h1 : BA w v1 a.dt) (h2 : BA w v2 b.dt) : Calls Tryd.prog 9 #[.agg #[vi a.ep, vi a.sq, vi a.vw, vi a.cm, v1], .agg #[vi b.ep, vi b.sq, vi b.vw, vi b.cm, v2]] w (Ret0 w (.bool (ptEq a b))) := by
  have h10 := h1
  have h20 := h2
  obtain ⟨A, c, rfl, -, -, -⟩ := h1.form
  obtain ⟨B, c', rfl, -, -, -⟩ := h2.form
  refine calls_of_C Tryd.func9 rfl Tryd.ntmps9 (Nat.le_of_ble_eq_true rfl) ?_
  refine C.less (L' := [(0, _), (1, _)]) ?_ (Sub.cons rfl (Sub.cons rfl (Sub.nil _))) (fun w h => h)
  refine C.seq ?_
  refine C.region ?_
  first | refine J.boxc rfl rfl rfl rfl rfl rfl (fun b2 => ?_) | refine J.box rfl rfl rfl rfl rfl (fun b2 => ?_)
  first | refine J.boxc rfl rfl rfl rfl rfl rfl (fun b3 => ?_) | refine J.box rfl rfl rfl rfl rfl (fun b3 => ?_)
  refine J.asg rfl rfl rfl rfl rfl ?_
  refine J.nil ?_
  refine C.seq ?_
  refine C.region ?_
  refine J.fld (k := 0) rfl rfl rfl rfl rfl Tryd.runUnderlying29 rfl rfl Tryd.sizeOf3 ?_
  refine J.ldo 1 rfl rfl rfl rfl rfl Tryd.isAgg3 rfl rfl ?_
  refine J.fld (k := 0) rfl rfl rfl rfl rfl Tryd.runUnderlying24 rfl rfl Tryd.sizeOf3 ?_
  refine J.ldo 0 rfl rfl rfl rfl rfl Tryd.isAgg3 rfl rfl ?_
  refine J.bin rfl rfl rfl rfl rfl rfl (fun w => rfl) ?_
  refine J.move rfl rfl rfl rfl rfl ?_
  rw [beq_dec]
  rcases Decidable.em (a.ep = b.ep) with e1 | hno
  · rw [dec_t e1]
    refine J.want rfl rfl rfl rfl ?_
    refine J.fld (k := 1) rfl rfl rfl rfl rfl Tryd.runUnderlying29 rfl rfl Tryd.sizeOf3 ?_
    refine J.want rfl rfl rfl rfl ?_
    refine J.ldo 1 rfl rfl rfl rfl rfl Tryd.isAgg3 rfl rfl ?_
    refine J.want rfl rfl rfl rfl ?_
    refine J.fld (k := 1) rfl rfl rfl rfl rfl Tryd.runUnderlying24 rfl rfl Tryd.sizeOf3 ?_
    refine J.want rfl rfl rfl rfl ?_
    refine J.ldo 0 rfl rfl rfl rfl rfl Tryd.isAgg3 rfl rfl ?_
    refine J.want rfl rfl rfl rfl ?_
    refine J.bin rfl rfl rfl rfl rfl rfl (fun w => rfl) ?_
    refine J.pick rfl rfl rfl rfl rfl rfl ?_
    refine J.move rfl rfl rfl rfl rfl ?_
    rw [beq_dec]
    rcases Decidable.em (a.sq = b.sq) with e2 | hno
    · rw [dec_t e2]
      refine J.want rfl rfl rfl rfl ?_
      refine J.fld (k := 2) rfl rfl rfl rfl rfl Tryd.runUnderlying29 rfl rfl Tryd.sizeOf3 ?_
      refine J.want rfl rfl rfl rfl ?_
      refine J.ldo 1 rfl rfl rfl rfl rfl Tryd.isAgg3 rfl rfl ?_
      refine J.want rfl rfl rfl rfl ?_
      refine J.fld (k := 2) rfl rfl rfl rfl rfl Tryd.runUnderlying24 rfl rfl Tryd.sizeOf3 ?_
      refine J.want rfl rfl rfl rfl ?_
      refine J.ldo 0 rfl rfl rfl rfl rfl Tryd.isAgg3 rfl rfl ?_
      refine J.want rfl rfl rfl rfl ?_
      refine J.bin rfl rfl rfl rfl rfl rfl (fun w => rfl) ?_
      refine J.pick rfl rfl rfl rfl rfl rfl ?_
      refine J.move rfl rfl rfl rfl rfl ?_
      rw [beq_dec]
      rcases Decidable.em (a.vw = b.vw) with e3 | hno
      · rw [dec_t e3]
        refine J.want rfl rfl rfl rfl ?_
        refine J.fld (k := 3) rfl rfl rfl rfl rfl Tryd.runUnderlying29 rfl rfl Tryd.sizeOf3 ?_
        refine J.want rfl rfl rfl rfl ?_
        refine J.ldo 1 rfl rfl rfl rfl rfl Tryd.isAgg3 rfl rfl ?_
        refine J.want rfl rfl rfl rfl ?_
        refine J.fld (k := 3) rfl rfl rfl rfl rfl Tryd.runUnderlying24 rfl rfl Tryd.sizeOf3 ?_
        refine J.want rfl rfl rfl rfl ?_
        refine J.ldo 0 rfl rfl rfl rfl rfl Tryd.isAgg3 rfl rfl ?_
        refine J.want rfl rfl rfl rfl ?_
        refine J.bin rfl rfl rfl rfl rfl rfl (fun w => rfl) ?_
        refine J.pick rfl rfl rfl rfl rfl rfl ?_
        refine J.move rfl rfl rfl rfl rfl ?_
        rw [beq_dec]
        rcases Decidable.em (a.cm = b.cm) with e4 | hno
        · rw [dec_t e4]
          refine J.want rfl rfl rfl rfl ?_
          refine J.fld (k := 4) rfl rfl rfl rfl rfl Tryd.runUnderlying29 rfl rfl Tryd.sizeOf22 ?_
          refine J.want rfl rfl rfl rfl ?_
          refine J.ldo 1 rfl rfl rfl rfl rfl Tryd.isAgg22 rfl rfl ?_
          refine J.want rfl rfl rfl rfl ?_
          refine J.fld (k := 4) rfl rfl rfl rfl rfl Tryd.runUnderlying24 rfl rfl Tryd.sizeOf22 ?_
          refine J.want rfl rfl rfl rfl ?_
          refine J.ldo 0 rfl rfl rfl rfl rfl Tryd.isAgg22 rfl rfl ?_
          refine J.want rfl rfl rfl rfl ?_
          refine J.call0 rfl rfl rfl rfl rfl Tryd.call20 (fun w h => SameBytes_calls w _ _ a.dt b.dt (h.ba h10) (h.ba h20)) ?_
          refine J.pick rfl rfl rfl rfl rfl rfl ?_
          refine J.asg rfl rfl rfl rfl rfl ?_
          refine J.nil ?_
          refine C.ret ?_
          rw [show decide (a.dt = b.dt) = ptEq a b by unfold ptEq; simp [e1, e2, e3, e4]]
          exact fin1 rfl (RV.tmp rfl) (fun w' h => h.ret0)
        · rw [dec_f hno]
          refine J.pass rfl rfl rfl rfl rfl (by intro h; cases h) ?_
          refine J.pass rfl rfl rfl rfl rfl (by intro h; cases h) ?_
          refine J.pass rfl rfl rfl rfl rfl (by intro h; cases h) ?_
          refine J.pass rfl rfl rfl rfl rfl (by intro h; cases h) ?_
          refine J.pass rfl rfl rfl rfl rfl (by intro h; cases h) ?_
          refine J.pick rfl rfl rfl rfl rfl rfl ?_
          refine J.asg rfl rfl rfl rfl rfl ?_
          refine J.nil ?_
          refine C.ret ?_
          rw [show ptEq a b = false by unfold ptEq; simp [hno]]
          exact fin1 rfl (RV.tmp rfl) (fun w' h => h.ret0)
      · rw [dec_f hno]
        refine J.pass rfl rfl rfl rfl rfl (by intro h; cases h) ?_
        refine J.pass rfl rfl rfl rfl rfl (by intro h; cases h) ?_
        refine J.pass rfl rfl rfl rfl rfl (by intro h; cases h) ?_
        refine J.pass rfl rfl rfl rfl rfl (by intro h; cases h) ?_
        refine J.pass rfl rfl rfl rfl rfl (by intro h; cases h) ?_
        refine J.pick rfl rfl rfl rfl rfl rfl ?_
        refine J.move rfl rfl rfl rfl rfl ?_
        refine J.pass rfl rfl rfl rfl rfl (by intro h; cases h) ?_
        refine J.pass rfl rfl rfl rfl rfl (by intro h; cases h) ?_
        refine J.pass rfl rfl rfl rfl rfl (by intro h; cases h) ?_
        refine J.pass rfl rfl rfl rfl rfl (by intro h; cases h) ?_
        refine J.pass rfl rfl rfl rfl rfl (by intro h; cases h) ?_
        refine J.pick rfl rfl rfl rfl rfl rfl ?_
        refine J.asg rfl rfl rfl rfl rfl ?_
        refine J.nil ?_
        refine C.ret ?_
        rw [show ptEq a b = false by unfold ptEq; simp [hno]]
        exact fin1 rfl (RV.tmp rfl) (fun w' h => h.ret0)
    · rw [dec_f hno]
      refine J.pass rfl rfl rfl rfl rfl (by intro h; cases h) ?_
      refine J.pass rfl rfl rfl rfl rfl (by intro h; cases h) ?_
      refine J.pass rfl rfl rfl rfl rfl (by intro h; cases h) ?_
      refine J.pass rfl rfl rfl rfl rfl (by intro h; cases h) ?_
      refine J.pass rfl rfl rfl rfl rfl (by intro h; cases h) ?_
      refine J.pick rfl rfl rfl rfl rfl rfl ?_
      refine J.move rfl rfl rfl rfl rfl ?_
      refine J.pass rfl rfl rfl rfl rfl (by intro h; cases h) ?_
      refine J.pass rfl rfl rfl rfl rfl (by intro h; cases h) ?_
      refine J.pass rfl rfl rfl rfl rfl (by intro h; cases h) ?_
      refine J.pass rfl rfl rfl rfl rfl (by intro h; cases h) ?_
      refine J.pass rfl rfl rfl rfl rfl (by intro h; cases h) ?_
      refine J.pick rfl rfl rfl rfl rfl rfl ?_
      refine J.move rfl rfl rfl rfl rfl ?_
      refine J.pass rfl rfl rfl rfl rfl (by intro h; cases h) ?_
      refine J.pass rfl rfl rfl rfl rfl (by intro h; cases h) ?_
      refine J.pass rfl rfl rfl rfl rfl (by intro h; cases h) ?_
      refine J.pass rfl rfl rfl rfl rfl (by intro h; cases h) ?_
      refine J.pass rfl rfl rfl rfl rfl (by intro h; cases h) ?_
      refine J.pick rfl rfl rfl rfl rfl rfl ?_
      refine J.asg rfl rfl rfl rfl rfl ?_
      refine J.nil ?_
      refine C.ret ?_
      rw [show ptEq a b = false by unfold ptEq; simp [hno]]
      exact fin1 rfl (RV.tmp rfl) (fun w' h => h.ret0)
  · rw [dec_f hno]
    refine J.pass rfl rfl rfl rfl rfl (by intro h; cases h) ?_
    refine J.pass rfl rfl rfl rfl rfl (by intro h; cases h) ?_
    refine J.pass rfl rfl rfl rfl rfl (by intro h; cases h) ?_
    refine J.pass rfl rfl rfl rfl rfl (by intro h; cases h) ?_
    refine J.pass rfl rfl rfl rfl rfl (by intro h; cases h) ?_
    refine J.pick rfl rfl rfl rfl rfl rfl ?_
    refine J.move rfl rfl rfl rfl rfl ?_
    refine J.pass rfl rfl rfl rfl rfl (by intro h; cases h) ?_
    refine J.pass rfl rfl rfl rfl rfl (by intro h; cases h) ?_
    refine J.pass rfl rfl rfl rfl rfl (by intro h; cases h) ?_
    refine J.pass rfl rfl rfl rfl rfl (by intro h; cases h) ?_
    refine J.pass rfl rfl rfl rfl rfl (by intro h; cases h) ?_
    refine J.pick rfl rfl rfl rfl rfl rfl ?_
    refine J.move rfl rfl rfl rfl rfl ?_
    refine J.pass rfl rfl rfl rfl rfl (by intro h; cases h) ?_
    refine J.pass rfl rfl rfl rfl rfl (by intro h; cases h) ?_
    refine J.pass rfl rfl rfl rfl rfl (by intro h; cases h) ?_
    refine J.pass rfl rfl rfl rfl rfl (by intro h; cases h) ?_
    refine J.pass rfl rfl rfl rfl rfl (by intro h; cases h) ?_
    refine J.pick rfl rfl rfl rfl rfl rfl ?_
    refine J.move rfl rfl rfl rfl rfl ?_
    refine J.pass rfl rfl rfl rfl rfl (by intro h; cases h) ?_
    refine J.pass rfl rfl rfl rfl rfl (by intro h; cases h) ?_
    refine J.pass rfl rfl rfl rfl rfl (by intro h; cases h) ?_
    refine J.pass rfl rfl rfl rfl rfl (by intro h; cases h) ?_
    refine J.pass rfl rfl rfl rfl rfl (by intro h; cases h) ?_
    refine J.pick rfl rfl rfl rfl rfl rfl ?_
    refine J.asg rfl rfl rfl rfl rfl ?_
    refine J.nil ?_
    refine C.ret ?_
    rw [show ptEq a b = false by unfold ptEq; simp [hno]]
    exact fin1 rfl (RV.tmp rfl) (fun w' h => h.ret0)
/-  Octets written over. -/
def spoil (xs : List UInt8) : List UInt8 := xs.map (· ^^^ 85)





































end Go.Proofs.YtiminmnmeknioaaDoor

/- Stores and loads, as plain lists. -/
set_option linter.unusedVariables false
namespace Go.Proofs.YtiminmnmeknioaaDoor

/-- A disk of n sectors with nothing in its cache. -/
def Good (d : Dk) (n : Nat) : Prop := d.secs.length = n ∧ (16 ≤ n ∧ n ≤ 2048) ∧ (∀ x ∈ d.secs, x.length = 64) ∧ d.cache = []
theorem flatMap_cg {α β : Type} {l : List α} {f g : α → List β} (h : ∀ x ∈ l, f x = g x) : l.flatMap f = l.flatMap g := by
  rw [List.flatMap_def, List.flatMap_def, List.map_congr_left h]
theorem any_f {α : Type} {p : α → Bool} {l : List α} (h : ∀ x ∈ l, p x = false) : l.any p = false := List.any_eq_false.2 (fun x hx => by rw [h x hx]; simp)
theorem Good.bad {d : Dk} {n : Nat} (h : Good d n) : dkBad d = false := by
  obtain ⟨h1, h2, h3, h4⟩ := h
  unfold dkBad
  rw [h4, any_f (l := d.secs) (p := oddS) (fun x hx => by unfold oddS; simp [h3 x hx]), dec_f (show ¬ d.secs.length < 1 by omega), dec_f (show ¬ d.secs.length > 2048 by omega)]
  rfl
theorem Good.ask {d : Dk} {n : Nat} (h : Good d n) : askErr d = 0 := by
  have hb := h.bad
  obtain ⟨h1, h2, h3, h4⟩ := h
  unfold askErr
  rw [if_neg (by rw [hb]; simp), if_neg (by omega)]
def chunk (data : List UInt8) (i : Nat) : List UInt8 := pad64 ((data.drop (i * 64)).take 64)
theorem putW_get (s : Int) (data : List UInt8) (n k : Nat) (h : k < n) : (putW s data n)[k]? = some (s + (k : Int), chunk data k) := by
  unfold putW chunk
  rw [List.getElem?_map, List.getElem?_range h]
  rfl
/-- Where what was put lies. -/
theorem landPut (kp : Nat → Bool) (s : Nat) (data : List UInt8) (n : Nat) (secs : List (List UInt8)) (hs : s + n ≤ secs.length) : ∀ k, k ≤ n → ∀ j, (landN kp (putW s data n) secs k)[j]? = if s ≤ j ∧ j < s + k ∧ kp (j - s) = true then some (chunk data (j - s)) else secs[j]? := by
  intro k
  induction k with
  | zero => intro _ j; rw [if_neg (by omega)]; rfl
  | succ k ih =>
    intro hk j
    have ih := ih (by omega) j
    rw [landN_succ (putW_get s data n k (by omega))]
    by_cases hkp : kp k = true
    · rw [if_pos hkp, show ((s : Int) + (k : Int)).toNat = s + k by omega, List.getElem?_set, landN_len]
      by_cases hj : s + k = j
      · subst hj
        rw [if_pos rfl, if_pos (by omega), if_pos ⟨by omega, by omega, by rw [Nat.add_sub_cancel_left]; exact hkp⟩, Nat.add_sub_cancel_left]
      · rw [if_neg hj, ih]
        by_cases hc : s ≤ j ∧ j < s + k ∧ kp (j - s) = true
        · rw [if_pos hc, if_pos ⟨hc.1, by omega, hc.2.2⟩]
        · rw [if_neg hc, if_neg (fun h => hc ⟨h.1, by omega, h.2.2⟩)]
    · rw [if_neg hkp, ih]
      by_cases hj : s + k = j
      · subst hj
        rw [if_neg (by omega), if_neg (by rw [Nat.add_sub_cancel_left]; exact fun h => hkp h.2.2)]
      · by_cases hc : s ≤ j ∧ j < s + k ∧ kp (j - s) = true
        · rw [if_pos hc, if_pos ⟨hc.1, by omega, hc.2.2⟩]
        · rw [if_neg hc, if_neg (fun h => hc ⟨h.1, by omega, h.2.2⟩)]
theorem chunk_len (data : List UInt8) (i : Nat) : (chunk data i).length = 64 := pad64_len (by rw [List.length_take]; omega)
theorem chunk_eq {data : List UInt8} {i : Nat} (h : i * 64 + 64 ≤ data.length) : chunk data i = (data.drop (i * 64)).take 64 := by
  unfold chunk pad64
  have : ((data.drop (i * 64)).take 64).length = 64 := by rw [List.length_take, List.length_drop]; omega
  rw [this]
  simp
theorem chunks_all (data : List UInt8) : ∀ n, n * 64 ≤ data.length → (List.range n).flatMap (chunk data) = data.take (n * 64) := by
  intro n
  induction n with
  | zero => intro _; rfl
  | succ n ih =>
    intro h
    rw [List.range_succ, List.flatMap_append, ih (by omega)]
    simp only [List.flatMap_cons, List.flatMap_nil, List.append_nil]
    rw [chunk_eq (by omega), Nat.add_mul, Nat.one_mul, List.take_add]
theorem Good.last {d : Dk} {n : Nat} (h : Good d n) (s : Int) : dkLast d s = d.secs.getD s.toNat [] := by
  unfold dkLast
  rw [h.2.2.2, lastW_nil]
  rfl
theorem Good.getAll {d : Dk} {n : Nat} (h : Good d n) (s : Nat) (hs : s + 8 ≤ n) : dkGetAll d s 8 = ((List.range 8).flatMap (fun i => d.secs.getD (s + i) []), 0) := by
  have hb := h.bad
  have hr : roomOk d.secs.length s 8 = true := decide_eq_true (by rw [h.1]; omega)
  unfold dkGetAll
  rw [if_neg (by rw [hb]; simp), if_neg (by rw [hr]; simp)]
  unfold lasts
  congr 1
  refine flatMap_cg ?_
  intro i hi
  rw [h.last, show ((s : Int) + (i : Int)).toNat = s + i by omega]
/-- The region number i, read as a point. -/
theorem reg_eq {d : Dk} {n : Nat} (h : Good d n) (i : Nat) (hi : i < 2) : ptReg1 d i = ptDec ((List.range 8).flatMap (fun j => d.secs.getD (i * 8 + j) [])) := by
  unfold ptReg1
  have := h.getAll (i * 8) (by have := h.2.1; omega)
  rw [show ((i : Int) * 8) = ((i * 8 : Nat) : Int) by omega, this]
theorem reg_congr {d e : Dk} {n : Nat} (h : Good d n) (k : Good e n) (i : Nat) (hi : i < 2) (hs : ∀ j, j < 8 → d.secs[i * 8 + j]? = e.secs[i * 8 + j]?) : ptReg1 d i = ptReg1 e i := by
  rw [reg_eq h i hi, reg_eq k i hi]
  congr 1
  refine flatMap_cg ?_
  intro j hj
  have hj := List.mem_range.1 hj
  rw [List.getD_eq_getElem?_getD, List.getD_eq_getElem?_getD, hs j hj]
theorem reg_of {d : Dk} {n : Nat} (h : Good d n) (i : Nat) (hi : i < 2) (data : List UInt8) (hd : data.length = 512) (hs : ∀ j, j < 8 → d.secs[i * 8 + j]? = some (chunk data j)) : ptReg1 d i = ptDec data := by
  rw [reg_eq h i hi]
  congr 1
  rw [show (List.range 8).flatMap (fun j => d.secs.getD (i * 8 + j) []) = (List.range 8).flatMap (chunk data) from flatMap_cg (fun j hj => by
    rw [List.getD_eq_getElem?_getD, hs j (List.mem_range.1 hj)]; rfl), chunks_all data 8 (by omega), List.take_of_length_le (by omega)]
/-- Sectors once something was put and some of it landed. -/
theorem Good.landed {d : Dk} {n : Nat} (h : Good d n) (kp : Nat → Bool) (s : Nat) (data : List UInt8) (hd : data.length = 512) (hs : s + 8 ≤ n) : Good ⟨landN kp (putW s data 8) d.secs 8, []⟩ n ∧ dkPutAll d s data = (⟨d.secs, putW s data 8⟩, 0) ∧ dkBad ⟨d.secs, putW s data 8⟩ = false := by
  have hb := h.bad
  obtain ⟨h1, h2, h3, h4⟩ := h
  have hn : nch data = 8 := by unfold nch; omega
  have hr : roomOk d.secs.length s (nch data) = true := decide_eq_true (by rw [h1, hn]; omega)
  refine ⟨⟨by rw [landN_len]; exact h1, h2, landN_64 (kp := kp) (c := putW (s : Int) data 8) h3 (fun x hx => ?_) 8, rfl⟩, ?_, ?_⟩
  · unfold putW at hx
    obtain ⟨i, _, rfl⟩ := List.mem_map.1 hx
    exact chunk_len data i
  · unfold dkPutAll
    rw [if_neg (by rw [hb]; simp), if_neg (by rw [hr]; simp), if_neg (by rw [hn, h4]; simp)]
    unfold dkPut
    rw [hn, h4]
    rfl
  · unfold dkBad
    rw [any_f (l := d.secs) (p := oddS) (fun x hx => by unfold oddS; simp [h3 x hx]), any_f (l := putW s data 8) (p := badW d.secs.length) (fun x hx => ?_)]
    · show (decide (d.secs.length < 1) || decide (d.secs.length > 2048) || decide ((putW (s : Int) data 8).length > 4096) || false || false) = false
      rw [dec_f (show ¬ d.secs.length < 1 by omega), dec_f (show ¬ d.secs.length > 2048 by omega), putW_len, dec_f (by omega)]
      rfl
    · unfold putW at hx
      obtain ⟨i, hi, rfl⟩ := List.mem_map.1 hx
      have hi := List.mem_range.1 hi
      unfold badW oddS
      have : (pad64 ((data.drop (i * 64)).take 64)).length = 64 := chunk_len data i
      simp [this]
      omega
theorem ep2 {p : Pt} (h : ptErr p = 0) : ∃ i : Nat, i < 2 ∧ p.ep % 2 = (i : Int) := by
  have := (ptErr_ok h).1 p.ep (by simp [Pt.nums])
  exact ⟨(p.ep % 2).toNat, by omega, by omega⟩
theorem store_good {d : Dk} {n : Nat} (h : Good d n) {p : Pt} (hp : ptErr p = 0) {i : Nat} (hi : i < 2) (hi2 : p.ep % 2 = (i : Int)) : ptStore d p = (⟨landN (fun _ => true) (putW ((i * 8 : Nat) : Int) (ptReg p) 8) d.secs 8, []⟩, 0) := by
  have hn := h.2.1
  obtain ⟨g1, g2, g3⟩ := h.landed (fun _ => true) (i * 8) (ptReg p) (ptReg_len hp) (by omega)
  unfold ptStore
  rw [if_neg (by rw [h.ask]; simp), if_neg (by rw [hp]; simp), hi2, show (8 * (i : Int)) = ((i * 8 : Nat) : Int) by omega, g2]
  simp only [ne_eq, not_true_eq_false, if_false]
  unfold dkLand
  rw [if_neg (by rw [g3]; simp), putW_len]
theorem store_bad {d : Dk} {n : Nat} (h : Good d n) {p : Pt} (hp : ptErr p ≠ 0) : ptStore d p = (dk0, ptErr p) := by
  unfold ptStore
  rw [if_neg (by rw [h.ask]; simp), if_pos hp]
/-- What a store leaves: one region is the point, the other as it was. -/
theorem stored {d : Dk} {n : Nat} (h : Good d n) {p : Pt} (hp : ptErr p = 0) {i : Nat} (hi : i < 2) (hi2 : p.ep % 2 = (i : Int)) : Good (ptStore d p).1 n ∧ (ptStore d p).2 = 0 ∧ ptReg1 (ptStore d p).1 i = (p, 0) ∧ ptReg1 (ptStore d p).1 ((1 - i : Nat)) = ptReg1 d ((1 - i : Nat)) := by
  have hn := h.2.1
  have hl := ptReg_len hp
  obtain ⟨g1, g2, g3⟩ := h.landed (fun _ => true) (i * 8) (ptReg p) hl (by omega)
  have hland := landPut (fun _ => true) (i * 8) (ptReg p) 8 d.secs (by rw [h.1]; omega) 8 (Nat.le_refl _)
  rw [store_good h hp hi hi2]
  refine ⟨g1, rfl, ?_, ?_⟩
  · rw [reg_of g1 i hi (ptReg p) hl (fun j hj => ?_), ptDec_reg hp]
    show (landN _ _ _ _)[_]? = _
    rw [hland, if_pos ⟨by omega, by omega, rfl⟩, Nat.add_sub_cancel_left]
  · refine reg_congr g1 h (1 - i) (by omega) (fun j hj => ?_)
    show (landN _ _ _ _)[_]? = _
    rw [hland, if_neg (by omega)]
theorem load_good {d : Dk} {n : Nat} (h : Good d n) : ptLoad d = ptStep (ptStep (ptZero, 21) (ptReg1 d (0 : Nat))) (ptReg1 d (1 : Nat)) := by
  unfold ptLoad
  rw [if_neg (by rw [h.ask]; simp)]
  rfl
/-- The newer of two. -/
theorem load_two {d : Dk} {n : Nat} (h : Good d n) {i : Nat} (hi : i < 2) {p : Pt} (h1 : ptReg1 d i = (p, 0)) (h2 : ∀ q, ptReg1 d ((1 - i : Nat)) = (q, 0) → q.ep < p.ep) : ptLoad d = (p, 0) := by
  rw [load_good h, ptStep2]
  match i, hi with
  | 0, _ =>
    rw [h1]
    generalize hq : ptReg1 d (1 : Nat) = q at h2 ⊢
    obtain ⟨q, c⟩ := q
    dsimp only
    rw [if_neg (by simp), if_neg ?_]
    rintro (h | ⟨h3, h4⟩)
    · exact h rfl
    · subst h3
      have := h2 q rfl
      omega
  | 1, _ =>
    rw [show ptReg1 d ((1 : Nat) : Int) = (p, 0) from h1]
    generalize hq : ptReg1 d (0 : Nat) = q at h2 ⊢
    obtain ⟨q, c⟩ := q
    dsimp only
    rw [if_neg (by simp)]
    by_cases hc : c = 0
    · subst hc
      rw [if_pos (.inr ⟨rfl, h2 q rfl⟩)]
    · rw [if_pos (.inl hc)]
/-- A new disk. -/
def dkZ : Dk := ⟨List.replicate 16 sec0, []⟩
theorem new16 : dkNew 16 = (dkZ, 0) := rfl
theorem goodZ : Good dkZ 16 := ⟨rfl, ⟨by omega, by omega⟩, fun x hx => by rw [(List.mem_replicate.1 hx).2]; rfl, rfl⟩
theorem regZ (i : Nat) (hi : i < 2) : (ptReg1 dkZ i).2 ≠ 0 := by
  rw [reg_of goodZ i hi (List.replicate 512 0) (List.length_replicate ..) (fun j hj => ?_)]
  · decide +kernel
  · have : chunk (List.replicate 512 0) j = sec0 := by
      rw [chunk_eq (by rw [List.length_replicate]; omega), List.drop_replicate, List.take_replicate]
      unfold sec0
      congr 1
      omega
    rw [this]
    show (List.replicate 16 sec0)[_]? = _
    rw [List.getElem?_replicate, if_pos (by omega)]
def ptA : Pt := ⟨1, 0, 0, 0, []⟩
def ptB : Pt := ⟨2, 7, 0, 0, []⟩
/-- The page's example. -/
theorem alive_all : (ptStore dkZ ptA).2 = 0 ∧ (ptStore (ptStore dkZ ptA).1 ptB).2 = 0 ∧ ptLoad (ptStore (ptStore dkZ ptA).1 ptB).1 = (ptB, 0) := by
  have ha : ptErr ptA = 0 := by decide +kernel
  have hb : ptErr ptB = 0 := by decide +kernel
  obtain ⟨a1, a2, a3, a4⟩ := stored goodZ ha (i := 1) (by omega) rfl
  obtain ⟨b1, b2, b3, b4⟩ := stored a1 hb (i := 0) (by omega) rfl
  refine ⟨a2, b2, load_two b1 (i := 0) (by omega) b3 (fun q hq => ?_)⟩
  have h1 : ptReg1 (ptStore (ptStore dkZ ptA).1 ptB).1 ((1 - 0 : Nat)) = (ptA, 0) := b4.trans a3
  rw [h1] at hq
  injection hq with hq _
  subst hq
  decide
end Go.Proofs.YtiminmnmeknioaaDoor
/- undercroftlaw17.alive. -/
set_option linter.unusedVariables false
namespace Go.Proofs.YtiminmnmeknioaaDoor
open Go Go.RowKit

theorem alive_calls (w : World) (hg : ErrTy w) : Calls Tryd.prog 4 #[] w (Ret0 w (.bool true)) := by
  obtain ⟨a1, a2, a3⟩ := alive_all
  refine calls_of_C Tryd.func4 rfl Tryd.ntmps4 (Nat.le_of_ble_eq_true rfl) ?_
  refine C.seq ?_
  refine C.region ?_
  refine J.asg rfl rfl rfl rfl rfl ?_
  refine J.nil ?_
  refine C.seq ?_
  refine C.region ?_
  refine J.callrl rfl rfl rfl rfl rfl Tryd.call10 (fun w h => by have := New_calls w 16; rw [new16] at this; exact this)  ?_
  rintro v8 R8 ⟨A1, c1, A2, c2, vs, fp, rfl, rfl⟩
  refine J.move rfl rfl rfl rfl rfl ?_
  refine J.ext rfl rfl rfl rfl rfl rfl ?_
  refine J.ext rfl rfl rfl rfl rfl rfl ?_
  refine J.allocc rfl rfl rfl rfl Tryd.zeroValue39 rfl (fun b1 => ?_)
  first | refine J.stwc 0 rfl rfl rfl rfl rfl rfl Tryd.sizeOf39 (by first | rfl | assumption | simp [Value.cells, Value.oneCell']) rfl rfl ?_ | refine J.stw 0 rfl rfl rfl rfl rfl rfl Tryd.sizeOf39 (by first | rfl | assumption | simp [Value.cells, Value.oneCell']) rfl rfl ?_
  refine J.asg rfl rfl rfl rfl rfl ?_
  refine J.nil ?_
  refine C.seq ?_
  refine C.region ?_
  refine J.ldw 0 rfl rfl rfl rfl rfl Tryd.isAgg39 rfl Tryd.sizeOf39 ?_
  refine J.bld (pl := #[(0, 1), (1, 1), (2, 1), (3, 1), (4, 1)]) (cells := #[_, _, _, _, _]) rfl rfl rfl rfl rfl Tryd.zeroValue29 Tryd.runUnderlying29 (fun w => by kernel_rfl) rfl ?_
  refine J.callrl rfl rfl rfl rfl rfl Tryd.call11 (fun w h => by have := Store_calls w dkZ ptA _ _ (.slice none 0 0) ((h.ord [1, 2] (by decide)).bsa_own) (h.rws 3 rfl) RB.nil (Nat.zero_le _); rw [a1] at this; exact this)  ?_
  rintro v14 R14 ⟨A3, c3, A4, c4, vs2, fp2, rfl, rfl⟩
  refine J.move rfl rfl rfl rfl rfl ?_
  refine J.ext rfl rfl rfl rfl rfl rfl ?_
  refine J.ext rfl rfl rfl rfl rfl rfl ?_
  first | refine J.stwc 3 rfl rfl rfl rfl rfl rfl Tryd.sizeOf39 (by first | rfl | assumption | simp [Value.cells, Value.oneCell']) rfl rfl ?_ | refine J.stw 3 rfl rfl rfl rfl rfl rfl Tryd.sizeOf39 (by first | rfl | assumption | simp [Value.cells, Value.oneCell']) rfl rfl ?_
  refine J.asg rfl rfl rfl rfl rfl ?_
  refine J.nil ?_
  refine C.seq ?_
  refine C.region ?_
  refine J.ldw 3 rfl rfl rfl rfl rfl Tryd.isAgg39 rfl Tryd.sizeOf39 ?_
  refine J.bld (pl := #[(0, 1), (1, 1), (2, 1), (3, 1), (4, 1)]) (cells := #[_, _, _, _, _]) rfl rfl rfl rfl rfl Tryd.zeroValue29 Tryd.runUnderlying29 (fun w => by kernel_rfl) rfl ?_
  refine J.callrl rfl rfl rfl rfl rfl Tryd.call11 (fun w h => by have := Store_calls w (ptStore dkZ ptA).1 ptB _ _ (.slice none 0 0) ((h.ord [0, 1] (by decide)).bsa_own) (h.rws 2 rfl) RB.nil (Nat.zero_le _); rw [a2] at this; exact this)  ?_
  rintro v20 R20 ⟨A5, c5, A6, c6, vs3, fp3, rfl, rfl⟩
  refine J.move rfl rfl rfl rfl rfl ?_
  refine J.ext rfl rfl rfl rfl rfl rfl ?_
  refine J.ext rfl rfl rfl rfl rfl rfl ?_
  first | refine J.stwc 6 rfl rfl rfl rfl rfl rfl Tryd.sizeOf39 (by first | rfl | assumption | simp [Value.cells, Value.oneCell']) rfl rfl ?_ | refine J.stw 6 rfl rfl rfl rfl rfl rfl Tryd.sizeOf39 (by first | rfl | assumption | simp [Value.cells, Value.oneCell']) rfl rfl ?_
  refine J.asg rfl rfl rfl rfl rfl ?_
  refine J.nil ?_
  refine C.seq ?_
  refine C.region ?_
  refine J.ldw 6 rfl rfl rfl rfl rfl Tryd.isAgg39 rfl Tryd.sizeOf39 ?_
  refine J.callr rfl rfl rfl rfl rfl Tryd.call12 (fun w h => by have := Load_calls w (ptStore (ptStore dkZ ptA).1 ptB).1 _ _ ((h.ord [0, 1] (by decide)).bsa_own) (h.rws 2 rfl) (h.err hg); rw [a3] at this; exact this)  ?_
  rintro v25 r25 ⟨A7, c7, fp4, rfl, rfl⟩
  refine J.move rfl rfl rfl rfl rfl ?_
  refine J.ext rfl rfl rfl rfl rfl rfl ?_
  refine J.ext rfl rfl rfl rfl rfl rfl ?_
  refine J.allocc rfl rfl rfl rfl Tryd.zeroValue29 rfl (fun b5 => ?_)
  first | refine J.stwc 0 rfl rfl rfl rfl rfl rfl Tryd.sizeOf29 (by first | rfl | assumption | simp [Value.cells, Value.oneCell']) rfl rfl ?_ | refine J.stw 0 rfl rfl rfl rfl rfl rfl Tryd.sizeOf29 (by first | rfl | assumption | simp [Value.cells, Value.oneCell']) rfl rfl ?_
  refine J.asg rfl rfl rfl rfl rfl ?_
  refine J.nil ?_
  refine C.seq ?_
  refine C.region ?_
  refine J.move rfl rfl rfl rfl rfl ?_
  refine J.call0 rfl rfl rfl rfl rfl Tryd.call7 (fun w h => num_calls w 0) ?_
  refine J.move rfl rfl rfl rfl rfl ?_
  refine J.call0 rfl rfl rfl rfl rfl Tryd.call7 (fun w h => num_calls w 0) ?_
  refine J.bin rfl rfl rfl rfl rfl rfl (fun w => ra_add (by omega)) ?_
  refine J.move rfl rfl rfl rfl rfl ?_
  refine J.call0 rfl rfl rfl rfl rfl Tryd.call7 (fun w h => num_calls w 0) ?_
  refine J.bin rfl rfl rfl rfl rfl rfl (fun w => ra_add (by omega)) ?_
  refine J.move rfl rfl rfl rfl rfl ?_
  refine J.call0 rfl rfl rfl rfl rfl Tryd.call7 (fun w h => num_calls w 0) ?_
  refine J.bin rfl rfl rfl rfl rfl rfl (fun w => ra_add (by omega)) ?_
  refine J.bin rfl rfl rfl rfl rfl rfl (fun w => rfl) ?_
  refine J.move rfl rfl rfl rfl rfl ?_
  refine J.want rfl rfl rfl rfl ?_
  refine J.fld (k := 0) rfl rfl rfl rfl rfl Tryd.runUnderlying29 rfl rfl Tryd.sizeOf3 ?_
  refine J.want rfl rfl rfl rfl ?_
  refine J.ldo 0 rfl rfl rfl rfl rfl Tryd.isAgg3 rfl rfl ?_
  refine J.want rfl rfl rfl rfl ?_
  refine J.bin rfl rfl rfl rfl rfl rfl (fun w => rfl) ?_
  refine J.pick rfl rfl rfl rfl rfl rfl ?_
  refine J.move rfl rfl rfl rfl rfl ?_
  refine J.want rfl rfl rfl rfl ?_
  refine J.fld (k := 1) rfl rfl rfl rfl rfl Tryd.runUnderlying29 rfl rfl Tryd.sizeOf3 ?_
  refine J.want rfl rfl rfl rfl ?_
  refine J.ldo 0 rfl rfl rfl rfl rfl Tryd.isAgg3 rfl rfl ?_
  refine J.want rfl rfl rfl rfl ?_
  refine J.bin rfl rfl rfl rfl rfl rfl (fun w => rfl) ?_
  refine J.pick rfl rfl rfl rfl rfl rfl ?_
  refine J.asg rfl rfl rfl rfl rfl ?_
  refine J.nil ?_
  refine C.ret ?_
  exact fin1 rfl (RV.tmp rfl) (fun w' h => h.ret0)
end Go.Proofs.YtiminmnmeknioaaDoor

/- Points and disks among the inputs. -/
set_option linter.unusedVariables false
namespace Go.Proofs.YtiminmnmeknioaaDoor
open Go Go.RowKit Go.ChangeShapes Go.WideShapes

section
variable {H : Type} {enc : TypeId × Value → H} {W : World}
theorem rd_pt {fuel : Nat} {cs : List Value} {x : DataW H × List MemPlace} (h : TR enc Tryd.prog W fuel 24 cs x) : ∃ (p : Pt) (dv : Value), cs = [vi p.ep, vi p.sq, vi p.vw, vi p.cm, dv] ∧ BA W dv p.dt ∧ p.dt.length ≤ Rows.uptoBulk x.1 ∧ ∀ n ∈ p.nums, InR64 n := by
  obtain ⟨hl, hf⟩ := rd_fields Tryd.underlying24 (Go.Deep.hone_of (by kernel_rfl)) (by kernel_rfl) h
  match cs, hl with
  | [c0, c1, c2, c3, c4], _ =>
    obtain ⟨n0, y0, t0, -⟩ := hf 0 _ c0 rfl rfl
    obtain ⟨n1, y1, t1, -⟩ := hf 1 _ c1 rfl rfl
    obtain ⟨n2, y2, t2, -⟩ := hf 2 _ c2 rfl rfl
    obtain ⟨n3, y3, t3, -⟩ := hf 3 _ c3 rfl rfl
    obtain ⟨n4, y4, t4, b4⟩ := hf 4 _ c4 rfl rfl
    obtain ⟨e0, h0, r0⟩ := rd_i64 Tryd.underlying3 t0
    obtain ⟨e1, h1, r1⟩ := rd_i64 Tryd.underlying3 t1
    obtain ⟨e2, h2, r2⟩ := rd_i64 Tryd.underlying3 t2
    obtain ⟨e3, h3, r3⟩ := rd_i64 Tryd.underlying3 t3
    obtain ⟨dv, xs, h4, r4, l4⟩ := rd_bytes Tryd.underlying22 Tryd.underlying5 (by kernel_rfl) t4
    injection h0 with h0 _
    injection h1 with h1 _
    injection h2 with h2 _
    injection h3 with h3 _
    injection h4 with h4 _
    subst h0 h1 h2 h3 h4
    exact ⟨⟨e0, e1, e2, e3, xs⟩, _, rfl, r4, Nat.le_trans l4 b4, fun n hn => by
      simp only [Pt.nums, List.mem_cons, List.not_mem_nil, or_false] at hn
      rcases hn with rfl | rfl | rfl | rfl <;> assumption⟩
end
end Go.Proofs.YtiminmnmeknioaaDoor

/- The listed variables: what they give, and a world that holds them. -/
set_option linter.unusedVariables false
namespace Go.Proofs.YtiminmnmeknioaaDoor
open Go Go.ChangeShapes Go.WideShapes Go.ChangeAt Go.RowKit

theorem pOwn : ownKnob Tryd.prog.godebug = none := by kernel_rfl
theorem pLaidOut : laidOutB Tryd.prog = true := by kernel_rfl
abbrev theLaid : List (String × DataW Unit) := [("unicode/utf8.acceptRanges", Rows.laid_unicode_utf8_acceptRanges), ("errors.errorType", Rows.laid_errors_errorType), ("unicode/utf8.first", Rows.laid_unicode_utf8_first)]
theorem gEt : Tryd.prog.globalNamed "errors.errorType" = some 0 := by kernel_rfl
theorem gRt : (Tryd.prog.cutTypes.find? (·.1 == "internal/reflectlite.rtype")).map (·.2) = some 144 := by kernel_rfl
theorem gRow : ((List.range 190).filter fun t => Tryd.prog.rowNamed t [101, 114, 114, 111, 114]) = [66] := by kernel_rfl
theorem gSize : Tryd.prog.types.size = 190 := by kernel_rfl
theorem gHandle : typeHandle Tryd.prog 66 = rty 66 := by kernel_rfl
theorem errTy_of_laid {W : World} (h : laidMetH Tryd.prog theLaid W) : ErrTy W := by
  have h' : laidMet Tryd.prog [("unicode/utf8.acceptRanges", Rows.laid_unicode_utf8_acceptRanges), ("unicode/utf8.first", Rows.laid_unicode_utf8_first)] W ∧ handlesMet Tryd.prog [("errors.errorType", Rows.laid_errors_errorType)] W := h
  obtain ⟨name, u, ty, e1, e2, e3, e4, e5⟩ := h'.2 _ (List.mem_singleton.2 rfl)
  have en : name = [101, 114, 114, 111, 114] := (Option.some.inj e1).symm
  subst en
  obtain rfl := Option.some.inj (gRt.symm.trans e2)
  have hm : ty ∈ (List.range 190).filter fun t => Tryd.prog.rowNamed t [101, 114, 114, 111, 114] := List.mem_filter.2 ⟨List.mem_range.2 (by rw [← gSize]; exact e3), e4⟩
  rw [gRow] at hm
  obtain rfl := List.mem_singleton.1 hm
  rw [gHandle] at e5
  have := World.var?_cell gEt e5 0
  unfold ErrTy
  simpa using this
def cellsFirst : Array Value := (Go.Pinned.utf8FirstZ.map fun (n : Nat) => Value.int .u8 (n : Int)).toArray
def cellsRanges : Array Value := ([128, 191, 160, 191, 128, 159, 144, 191, 128, 143, 0, 0, 0, 0, 0, 0, 0, 0, 0, 0, 0, 0, 0, 0, 0, 0, 0, 0, 0, 0, 0, 0].map fun n : Nat => Value.int .u8 (n : Int)).toArray
def setBlk (h : Array Obj) (g : Nat) (cs : Array Value) : Array Obj := h.modify g fun
  | .cells _ t frozen => .cells cs t frozen
  | o => o
/-- A world that holds what is listed. -/
noncomputable def laidWorld (os : Os) : World :=
  let w0 := World.holding Tryd.prog os ⟨#[], #[], []⟩
  { w0 with heap := setBlk (setBlk (setBlk w0.heap 0 #[.iface 144 (.agg #[rty 66])]) 1 cellsFirst) 2 cellsRanges }
end Go.Proofs.YtiminmnmeknioaaDoor

/- One octet that is another one: the sum finds it. Plain lists. -/
set_option linter.unusedVariables false
namespace Go.Proofs.YtiminmnmeknioaaDoor

theorem xor_zero_eq {a b : UInt32} (h : a ^^^ b = 0) : a = b := by
  have : (a ^^^ b) ^^^ b = 0 ^^^ b := by rw [h]
  rwa [UInt32.xor_assoc, UInt32.xor_self, UInt32.xor_zero, UInt32.zero_xor] at this
theorem crcBit_zero {a : UInt32} (h : crcBit a = 0) : a = 0 := by
  rw [crcBit_if] at h
  split at h
  · exfalso
    have h1 := xor_zero_eq h
    have h2 : (a >>> 1).toNat = (0xedb88320 : UInt32).toNat := by rw [h1]
    rw [UInt32.toNat_shiftRight, Nat.shiftRight_eq_div_pow] at h2
    have h3 := a.toNat_lt
    have h4 : (0xedb88320 : UInt32).toNat = 3988292384 := rfl
    have h5 : (1 : UInt32).toNat % 32 = 1 := rfl
    rw [h4, h5] at h2
    omega
  · rename_i h0
    have h1 : a &&& 1 = 0 := (and_one_two a).resolve_right h0
    have h2 : (a >>> 1).toNat = 0 := by rw [h]; rfl
    rw [UInt32.toNat_shiftRight, Nat.shiftRight_eq_div_pow] at h2
    have h5 : (1 : UInt32).toNat % 32 = 1 := rfl
    rw [h5] at h2
    have h3 : (a &&& 1).toNat = a.toNat % 2 := by rw [UInt32.toNat_and]; exact Nat.and_one_is_mod _
    rw [h1] at h3
    have h4 : (0 : UInt32).toNat = 0 := rfl
    apply UInt32.toNat_inj.1
    omega
theorem crcBit_inj {a b : UInt32} (h : crcBit a = crcBit b) : a = b := by
  apply xor_zero_eq
  apply crcBit_zero
  rw [crcBit_xor, h, UInt32.xor_self]
theorem crc4_inj {a b : UInt32} (h : crc4 a = crc4 b) : a = b := crcBit_inj (crcBit_inj (crcBit_inj (crcBit_inj h)))
theorem xor_cancel {a b c : UInt32} (h : a ^^^ c = b ^^^ c) : a = b := by
  have : (a ^^^ c) ^^^ c = (b ^^^ c) ^^^ c := by rw [h]
  rwa [UInt32.xor_assoc, UInt32.xor_self, UInt32.xor_zero, UInt32.xor_assoc, UInt32.xor_self, UInt32.xor_zero] at this
theorem crcByte_c {a b : UInt32} {x : UInt8} (h : crcByte a x = crcByte b x) : a = b := xor_cancel (crc4_inj (crc4_inj h))
theorem crcByte_b {a : UInt32} {x y : UInt8} (h : crcByte a x = crcByte a y) : x = y := by
  have h1 := crc4_inj (crc4_inj h)
  rw [UInt32.xor_comm a, UInt32.xor_comm a] at h1
  have h2 := xor_cancel h1
  apply UInt8.toNat_inj.1
  have h3 : x.toUInt32.toNat = y.toUInt32.toNat := by rw [h2]
  simpa using h3
theorem crcFold_c : ∀ (xs : List UInt8) {a b : UInt32}, xs.foldl crcByte a = xs.foldl crcByte b → a = b
  | [], _, _, h => h
  | x :: xs, _, _, h => crcByte_c (crcFold_c xs h)
theorem crcFold_set : ∀ (xs : List UInt8) (j : Nat) (c : UInt32) {u v : UInt8}, xs[j]? = some u → u ≠ v → (xs.set j v).foldl crcByte c ≠ xs.foldl crcByte c
  | [], _, _, _, _, h, _ => by simp at h
  | x :: xs, 0, c, u, v, h, hne => fun e => by
    simp only [List.getElem?_cons_zero, Option.some.injEq] at h
    subst h
    simp only [List.set_cons_zero, List.foldl_cons] at e
    exact hne (crcByte_b (crcFold_c xs e)).symm
  | x :: xs, j + 1, c, u, v, h, hne => by
    simp only [List.set_cons_succ, List.foldl_cons]
    exact crcFold_set xs j _ (by simpa using h) hne
theorem not_inj {a b : UInt32} (h : ~~~ a = ~~~ b) : a = b := by
  have : ~~~ ~~~ a = ~~~ ~~~ b := by rw [h]
  rwa [UInt32.not_not, UInt32.not_not] at this
theorem crcSum_set {xs : List UInt8} {j : Nat} {u v : UInt8} (h : xs[j]? = some u) (hne : u ≠ v) : crcSum (xs.set j v) ≠ crcSum xs := fun e => crcFold_set xs j _ h hne (not_inj e)
theorem le4_inj {a b : UInt32} (h : le4 a = le4 b) : a = b := by
  unfold le4 at h
  simp only [List.cons.injEq, and_true] at h
  obtain ⟨h0, h1, h2, h3⟩ := h
  have e : ∀ {x y : UInt8}, x = y → x.toNat = y.toNat := fun h => by rw [h]
  have h0 := e h0
  have h1 := e h1
  have h2 := e h2
  have h3 := e h3
  simp only [UInt32.toNat_toUInt8, UInt32.toNat_shiftRight, Nat.shiftRight_eq_div_pow] at h0 h1 h2 h3
  have k8 : (8 : UInt32).toNat % 32 = 8 := rfl
  have k16 : (16 : UInt32).toNat % 32 = 16 := rfl
  have k24 : (24 : UInt32).toNat % 32 = 24 := rfl
  rw [k8] at h1
  rw [k16] at h2
  rw [k24] at h3
  have ha := a.toNat_lt
  have hb := b.toNat_lt
  apply UInt32.toNat_inj.1
  omega
theorem opened_set {xs : List UInt8} {j : Nat} {u v : UInt8} (h : (xs ++ le4 (crcSum xs))[j]? = some u) (hne : u ≠ v) : (opened ((xs ++ le4 (crcSum xs)).set j v)).2 ≠ 0 := by
  have hj := (List.getElem?_eq_some_iff.1 h).1
  rw [List.length_append, le4_len] at hj
  have hlen : ((xs ++ le4 (crcSum xs)).set j v).length = xs.length + 4 := by rw [List.length_set, List.length_append, le4_len]
  unfold opened
  rw [hlen, if_neg (by omega), show xs.length + 4 - 4 = xs.length by omega, if_neg]
  · simp
  · rcases Nat.lt_or_ge j xs.length with hl | hl
    · rw [List.set_append_left _ _ hl, List.drop_left' (by rw [List.length_set]), List.take_left' (by rw [List.length_set])]
      intro e
      rw [List.getElem?_append_left hl] at h
      exact crcSum_set h hne (le4_inj e).symm
    · rw [List.set_append_right _ _ hl, List.drop_left, List.take_left]
      intro e
      rw [List.getElem?_append_right hl] at h
      have hk : j - xs.length < (le4 (crcSum xs)).length := by rw [le4_len]; omega
      have h1 : ((le4 (crcSum xs)).set (j - xs.length) v)[j - xs.length]? = some v := List.getElem?_set_self hk
      rw [e, h] at h1
      injection h1 with h1
      exact hne h1
theorem decRec_set {p : Pt} (hp : ptErr p = 0) {j : Nat} {u v : UInt8} (h : (ptRec p)[j]? = some u) (hne : u ≠ v) : ∃ e, decRec ((ptRec p).set j v) = .error e ∧ e ≠ 0 := by
  rw [ptBody hp] at h ⊢
  have h1 := opened_set h hne
  exact ⟨_, by unfold decRec; rw [if_pos h1], h1⟩
/-- One octet of a region spoilt, but of its length. -/
theorem spoilt {p : Pt} (hp : ptErr p = 0) {k : Nat} (hk : 2 ≤ k) {u v : UInt8} (h : (ptReg p)[k]? = some u) (hne : u ≠ v) : ∃ e, ptDec ((ptReg p).set k v) = (ptZero, e) ∧ e ≠ 0 := by
  have hl := (ptRec_eq hp).2
  have e : ptReg p = UInt8.ofNat ((ptRec p).length / 256) :: UInt8.ofNat (ptRec p).length :: (ptRec p ++ List.replicate (510 - (ptRec p).length) 0) := by unfold ptReg be2; simp
  have hN : (UInt8.ofNat ((ptRec p).length / 256)).toNat * 256 + (UInt8.ofNat (ptRec p).length).toNat = (ptRec p).length := by
    rw [ofNat8 (by omega), UInt8.toNat_ofNat']
    omega
  rw [e] at h ⊢
  obtain ⟨j, rfl⟩ : ∃ j, k = j + 2 := ⟨k - 2, by omega⟩
  simp only [List.getElem?_cons_succ] at h
  simp only [List.set_cons_succ]
  rw [ptDec_go (by simp; omega) (by rw [hN]; omega), hN]
  rcases Nat.lt_or_ge j (ptRec p).length with hj | hj
  · rw [List.getElem?_append_left hj] at h
    obtain ⟨er, h1, h2⟩ := decRec_set hp h hne
    rw [List.set_append_left _ _ hj, List.take_left' (by rw [List.length_set]), h1]
    exact ⟨er, rfl, h2⟩
  · rw [List.getElem?_append_right hj] at h
    have hjl : j - (ptRec p).length < 510 - (ptRec p).length := by have := (List.getElem?_eq_some_iff.1 h).1; simpa using this
    rw [List.getElem?_replicate, if_pos hjl] at h
    injection h with h
    subst h
    rw [List.set_append_right _ _ hj, List.take_left, List.drop_left, decRec_pt hp]
    have hna : ¬ all0 ((List.replicate (510 - (ptRec p).length) 0).set (j - (ptRec p).length) v) := fun ha => hne (ha v (List.mem_iff_getElem.2 ⟨j - (ptRec p).length, by simpa using hjl, by simp⟩)).symm
    rw [show decide (¬ all0 ((List.replicate (510 - (ptRec p).length) 0).set (j - (ptRec p).length) v)) = true from decide_eq_true hna]
    unfold ptOfRec
    dsimp only [Pt.nums]
    rw [if_neg (by simp), if_neg (by rw [show (⟨p.ep, p.sq, p.vw, p.cm, p.dt⟩ : Pt) = p from rfl, hp]; simp), if_pos rfl]
    exact ⟨23, rfl, by omega⟩
theorem chunk_set {data : List UInt8} (hd : data.length = 512) {k j : Nat} (hj : j < 8) (v : UInt8) : chunk (data.set k v) j = if k / 64 = j then (chunk data j).set (k % 64) v else chunk data j := by
  rw [chunk_eq (by rw [List.length_set]; omega), chunk_eq (by omega), List.drop_set]
  by_cases h : k < j * 64
  · rw [if_pos h, if_neg (by omega)]
  · rw [if_neg h, List.take_set]
    by_cases h2 : k / 64 = j
    · rw [if_pos h2, show k - j * 64 = k % 64 by omega]
    · rw [if_neg h2, List.set_eq_of_length_le]
      rw [List.length_take]
      omega
end Go.Proofs.YtiminmnmeknioaaDoor
/- PointBack: the walk. -/
set_option linter.unusedVariables false
namespace Go.Proofs.YtiminmnmeknioaaDoor
open Go Go.RowKit

theorem rem510 {P : Program} {w : World} {t : TypeId} (n : Int) : (binOp .rem t (.int .i64 n) (.int .i64 510)).run P w = .ok (.int .i64 (n.tmod 510)) w := rfl
theorem rem510p {P : Program} {w : World} {t : TypeId} (n : Int) (h : 0 ≤ n) : (binOp .rem t (.int .i64 n) (.int .i64 510)).run P w = .ok (.int .i64 (n % 510)) w := by
  show Result.ok (Value.int .i64 (n.tmod 510)) w = _
  rw [Int.tmod_eq_emod_of_nonneg h]
theorem tmod510 (n : Int) : -510 < n.tmod 510 ∧ n.tmod 510 < 510 := ⟨Int.lt_tmod_of_pos n (by omega), Int.tmod_lt_of_pos n (by omega)⟩
theorem PointBack_calls (w : World) (p : Pt) (dv : Value) (at1 : Int) (bt : UInt8) (hx : BA w dv p.dt) (hl : p.dt.length ≤ 1048576) (hg : ErrTy w) : Calls Tryd.prog 3 #[.agg #[vi p.ep, vi p.sq, vi p.vw, vi p.cm, dv], vi at1, .int .u8 (bt.toNat : Int)] w (Ret0 w (.bool true)) := by
  have hx0 := hx
  obtain ⟨A, c, rfl, -, -, -⟩ := hx.form
  refine calls_of_C Tryd.func3 rfl Tryd.ntmps3 (Nat.le_of_ble_eq_true rfl) ?_
  refine C.less (L' := [(0, _), (1, _), (2, _)]) ?_ (Sub.cons rfl (Sub.cons rfl (Sub.cons rfl (Sub.nil _)))) (fun w h => h)
  refine C.seq ?_
  refine C.region ?_
  first | refine J.boxc rfl rfl rfl rfl rfl rfl (fun b3 => ?_) | refine J.box rfl rfl rfl rfl rfl (fun b3 => ?_)
  refine J.asg rfl rfl rfl rfl rfl ?_
  refine J.nil ?_
  refine C.seq ?_
  refine C.seq ?_
  refine C.region ?_
  refine J.call0 rfl rfl rfl rfl rfl Tryd.call4 (fun w h => alive_calls w (h.err hg)) ?_
  refine J.not rfl rfl rfl rfl rfl ?_
  refine J.nil ?_
  refine C.cond_f rfl ?_
  refine C.skip ?_
  refine C.seq ?_
  refine C.region ?_
  refine J.ldw 0 rfl rfl rfl rfl rfl Tryd.isAgg24 rfl Tryd.sizeOf24 ?_
  refine J.callr rfl rfl rfl rfl rfl Tryd.call6 (fun w h => of_pt_calls w p _ (h.ba hx0) (by omega))  ?_
  rintro v17 r17 ⟨Ax, cx, rfl, rfl⟩
  refine J.callr rfl rfl rfl rfl rfl Tryd.call5 (fun w h => Encode_row_calls w p _ (h.rowBA 0 rfl rfl) (by omega))  ?_
  rintro v18 r18 ⟨Ab, cb, rfl, rfl⟩
  refine J.move rfl rfl rfl rfl rfl ?_
  refine J.ext rfl rfl rfl rfl rfl rfl ?_
  refine J.ext rfl rfl rfl rfl rfl rfl ?_
  refine J.asg rfl rfl rfl rfl rfl ?_
  refine J.asg rfl rfl rfl rfl rfl ?_
  refine J.nil ?_
  refine C.seq ?_
  refine C.seq ?_
  refine C.region ?_
  refine J.move rfl rfl rfl rfl rfl ?_
  refine J.call0 rfl rfl rfl rfl rfl Tryd.call7 (fun w h => num_calls w _) ?_
  refine J.bin rfl rfl rfl rfl rfl rfl (fun w => rfl) ?_
  refine J.nil ?_
  rcases Decidable.em (ptErr p = 0) with h2 | h2
  · have he : ptEnc p = (ptReg p, 0) := by unfold ptEnc; rw [if_pos h2]
    have hlen := ptReg_len h2
    rw [he]
    refine C.cond_f rfl ?_
    refine C.skip ?_
    refine C.seq ?_
    refine C.region ?_
    refine J.move rfl rfl rfl rfl rfl ?_
    refine J.callr rfl rfl rfl rfl rfl Tryd.call8 (fun w h => by have := Decode_pt_calls w _ (ptReg p) (h.rowBA 0 rfl rfl) (by omega) (h.err hg); rw [ptDec_reg h2] at this; exact this)  ?_
    rintro v29 r29 ⟨Aq, cq, fq, rfl, rfl⟩
    refine J.move rfl rfl rfl rfl rfl ?_
    refine J.ext rfl rfl rfl rfl rfl rfl ?_
    refine J.ext rfl rfl rfl rfl rfl rfl ?_
    refine J.allocc rfl rfl rfl rfl Tryd.zeroValue29 rfl (fun b9 => ?_)
    first | refine J.stwc 0 rfl rfl rfl rfl rfl rfl Tryd.sizeOf29 (by first | rfl | assumption | simp [Value.cells, Value.oneCell']) rfl rfl ?_ | refine J.stw 0 rfl rfl rfl rfl rfl rfl Tryd.sizeOf29 (by first | rfl | assumption | simp [Value.cells, Value.oneCell']) rfl rfl ?_
    refine J.asg rfl rfl rfl rfl rfl ?_
    refine J.nil ?_
    refine C.seq ?_
    refine C.seq ?_
    refine C.region ?_
    refine J.move rfl rfl rfl rfl rfl ?_
    refine J.call0 rfl rfl rfl rfl rfl Tryd.call7 (fun w h => num_calls w 0) ?_
    refine J.bin rfl rfl rfl rfl rfl rfl (fun w => rfl) ?_
    refine J.move rfl rfl rfl rfl rfl ?_
    refine J.want rfl rfl rfl rfl ?_
    refine J.ldw 0 rfl rfl rfl rfl rfl Tryd.isAgg29 rfl Tryd.sizeOf29 ?_
    refine J.want rfl rfl rfl rfl ?_
    refine J.ldw 4 rfl rfl rfl rfl rfl Tryd.isAgg24 rfl Tryd.sizeOf24 ?_
    refine J.want rfl rfl rfl rfl ?_
    refine J.call0 rfl rfl rfl rfl rfl Tryd.call9 (fun w h => same_calls w p p _ _ (h.rb 1 rfl) (h.ba hx0)) ?_
    rw [ptEq_refl]
    refine J.want rfl rfl rfl rfl ?_
    refine J.not rfl rfl rfl rfl rfl ?_
    refine J.pick rfl rfl rfl rfl rfl rfl ?_
    refine J.move rfl rfl rfl rfl rfl ?_
    refine J.want rfl rfl rfl rfl ?_
    refine J.move rfl rfl rfl rfl rfl ?_
    refine J.want rfl rfl rfl rfl ?_
    refine J.bin rfl rfl rfl rfl rfl rfl (fun w => rfl) ?_
    refine J.pick rfl rfl rfl rfl rfl rfl ?_
    refine J.nil ?_
    refine C.cond rfl (fun h5 => ?_) (fun h5 => ?_)
    · refine C.seq ?_
      refine C.region ?_
      refine J.move rfl rfl rfl rfl rfl ?_
      refine J.call0 rfl rfl rfl rfl rfl Tryd.call7 (fun w h => num_calls w 0) ?_
      refine J.bin rfl rfl rfl rfl rfl rfl (fun w => rfl) ?_
      refine J.move rfl rfl rfl rfl rfl ?_
      refine J.want rfl rfl rfl rfl ?_
      refine J.ldw 0 rfl rfl rfl rfl rfl Tryd.isAgg29 rfl Tryd.sizeOf29 ?_
      refine J.want rfl rfl rfl rfl ?_
      refine J.ldw 4 rfl rfl rfl rfl rfl Tryd.isAgg24 rfl Tryd.sizeOf24 ?_
      refine J.want rfl rfl rfl rfl ?_
      refine J.call0 rfl rfl rfl rfl rfl Tryd.call9 (fun w h => same_calls w p p _ _ (h.rb 1 rfl) (h.ba hx0)) ?_
      refine J.pick rfl rfl rfl rfl rfl rfl ?_
      refine J.asg rfl rfl rfl rfl rfl ?_
      refine J.nil ?_
      refine C.ret ?_
      rw [ptEq_refl]
      exact fin1 rfl (RV.tmp rfl) (fun w' h => h.ret0)
    · have h6 : bt ≠ 0 := fun e => by rw [e] at h5; cases h5
      refine C.ex (fun gq : Nat × Array Value => [blk gq.1 gq.2 5]) _ (fun w h => (h.ord [2] (by decide)).row_blk (by show 0 < (ptReg p).length; omega)) ?_
      rintro ⟨bv, cv⟩ ⟨rfl, hc8, hc82, hcs, hct⟩
      dsimp only at hc8 hcs hct ⊢
      rw [Nat.mul_one] at hct
      refine C.skip ?_
      refine C.seq ?_
      refine C.region ?_
      refine J.move rfl rfl rfl rfl rfl ?_
      refine J.move rfl rfl rfl rfl rfl ?_
      refine J.bin rfl rfl rfl rfl rfl rfl (fun w => rem510 _) ?_
      have hz1 := tmod510 at1
      obtain ⟨z, hz⟩ : ∃ z, at1.tmod 510 = z := ⟨_, rfl⟩
      rw [hz] at hz1 ⊢
      refine J.bin rfl rfl rfl rfl rfl rfl (fun w => ra_add (by omega)) ?_
      refine J.bin rfl rfl rfl rfl rfl rfl (fun w => rem510p _ (by omega)) ?_
      obtain ⟨m, hm⟩ : ∃ m : Nat, (z + 510) % 510 = (m : Int) := ⟨((z + 510) % 510).toNat, by omega⟩
      have hm2 : m < 510 := by omega
      rw [hm]
      refine J.bin rfl rfl rfl rfl rfl rfl (fun w => ra_add (by omega)) ?_
      first | refine J.idx1 rfl rfl rfl rfl rfl rfl Tryd.runUnderlying22 Tryd.sizeOf5 (by omega) ?_ | refine J.idx rfl rfl rfl rfl rfl rfl Tryd.runUnderlying22 Tryd.sizeOf5 (by omega) ?_
      have hoff : 0 + ((2 : Int) + (m : Int)).toNat * 1 = m + 2 := by omega
      obtain ⟨u, hu⟩ : ∃ u, (ptReg p)[m + 2]? = some u := ⟨_, List.getElem?_eq_getElem (by omega)⟩
      refine J.ld rfl rfl rfl rfl rfl Tryd.isAgg5 (fun w h => by rw [hoff]; exact cellO h 0 rfl (getArr hct (by rw [List.getElem?_map, hu]; rfl))) ?_
      refine J.move rfl rfl rfl rfl rfl ?_
      refine J.bin rfl rfl rfl rfl rfl rfl (fun w => u8_xor u bt) ?_
      first | refine J.idx1 rfl rfl rfl rfl rfl rfl Tryd.runUnderlying22 Tryd.sizeOf5 (by omega) ?_ | refine J.idx rfl rfl rfl rfl rfl rfl Tryd.runUnderlying22 Tryd.sizeOf5 (by omega) ?_
      have hne : u ≠ u ^^^ bt := fun e => h6 (by
        have e2 : u ^^^ u = u ^^^ (u ^^^ bt) := by rw [← e]
        rw [UInt8.xor_self, ← UInt8.xor_assoc, UInt8.xor_self, UInt8.zero_xor] at e2
        exact e2.symm)
      obtain ⟨er, hsp, her⟩ := spoilt h2 (k := m + 2) (by omega) hu hne
      refine J.st1 0 rfl rfl rfl rfl rfl rfl Tryd.sizeOf5 rfl rfl (by rw [Nat.blt_eq]; omega) rfl ?_
      refine J.nil ?_
      refine C.seq ?_
      refine C.region ?_
      refine J.move rfl rfl rfl rfl rfl ?_
      refine J.callr rfl rfl rfl rfl rfl Tryd.call8 (fun w h => by have hr := h.blk_row2 (sz := 1) (vs := ((ptReg p).set (m + 2) (u ^^^ bt)).map vu8) hc8 hc82 (by simpa using hcs) (by rw [Nat.mul_one, hoff, setArr hct (by omega), List.map_set]); have := Decode_pt_calls w _ ((ptReg p).set (m + 2) (u ^^^ bt)) (hr.rowBA 0 rfl rfl) (by rw [List.length_set]; omega) (h.err hg); rw [hsp] at this; exact this)  ?_
      rintro v66 r66 ⟨Ar, cr, fr, rfl, rfl⟩
      refine J.move rfl rfl rfl rfl rfl ?_
      refine J.ext rfl rfl rfl rfl rfl rfl ?_
      refine J.ext rfl rfl rfl rfl rfl rfl ?_
      refine J.allocc rfl rfl rfl rfl Tryd.zeroValue29 rfl (fun b11 => ?_)
      first | refine J.stwc 0 rfl rfl rfl rfl rfl rfl Tryd.sizeOf29 (by first | rfl | assumption | simp [Value.cells, Value.oneCell']) rfl rfl ?_ | refine J.stw 0 rfl rfl rfl rfl rfl rfl Tryd.sizeOf29 (by first | rfl | assumption | simp [Value.cells, Value.oneCell']) rfl rfl ?_
      refine J.asg rfl rfl rfl rfl rfl ?_
      refine J.nil ?_
      refine C.seq ?_
      refine C.region ?_
      refine J.move rfl rfl rfl rfl rfl ?_
      refine J.call0 rfl rfl rfl rfl rfl Tryd.call7 (fun w h => num_calls w _) ?_
      refine J.bin rfl rfl rfl rfl rfl rfl (fun w => rfl) ?_
      refine J.move rfl rfl rfl rfl rfl ?_
      rw [show (er != 0) = true by simpa using her]
      refine J.want rfl rfl rfl rfl ?_
      refine J.fld (k := 0) rfl rfl rfl rfl rfl Tryd.runUnderlying29 rfl rfl Tryd.sizeOf3 ?_
      refine J.want rfl rfl rfl rfl ?_
      refine J.ldo 0 rfl rfl rfl rfl rfl Tryd.isAgg3 rfl rfl ?_
      refine J.want rfl rfl rfl rfl ?_
      refine J.bin rfl rfl rfl rfl rfl rfl (fun w => rfl) ?_
      refine J.pick rfl rfl rfl rfl rfl rfl ?_
      refine J.move rfl rfl rfl rfl rfl ?_
      refine J.want rfl rfl rfl rfl ?_
      refine J.fld (k := 4) rfl rfl rfl rfl rfl Tryd.runUnderlying29 rfl rfl Tryd.sizeOf22 ?_
      refine J.want rfl rfl rfl rfl ?_
      refine J.ldo 0 rfl rfl rfl rfl rfl Tryd.isAgg22 rfl rfl ?_
      refine J.want rfl rfl rfl rfl ?_
      refine J.len rfl rfl rfl rfl rfl Tryd.runUnderlying22 ?_
      refine J.want rfl rfl rfl rfl ?_
      refine J.bin rfl rfl rfl rfl rfl rfl (fun w => rfl) ?_
      refine J.pick rfl rfl rfl rfl rfl rfl ?_
      refine J.asg rfl rfl rfl rfl rfl ?_
      refine J.nil ?_
      refine C.ret ?_
      exact fin1 rfl (RV.tmp rfl) (fun w' h => h.ret0)
  · have he : ptEnc p = ([], ptErr p) := by unfold ptEnc; rw [if_neg h2]
    rw [he, show (ptErr p != 0) = true by simpa using h2]
    refine C.cond_t rfl ?_
    refine C.seq ?_
    refine C.region ?_
    refine J.move rfl rfl rfl rfl rfl ?_
    refine J.len rfl rfl rfl rfl rfl Tryd.runUnderlying22 ?_
    refine J.bin rfl rfl rfl rfl rfl rfl (fun w => rfl) ?_
    refine J.asg rfl rfl rfl rfl rfl ?_
    refine J.nil ?_
    refine C.ret ?_
    exact fin1 rfl (RV.tmp rfl) (fun w' h => h.ret0)
end Go.Proofs.YtiminmnmeknioaaDoor

