/- The page's reader: in every state. -/
import Derived.Test.YtiminmnmeknioaaGreatDoorOw2
set_option linter.unusedVariables false
namespace Go.Proofs.YtiminmnmeknioaaGreatDoor
open Go Go.RowKit

theorem ret0_m {w : World} {b : Nat} {cs : Array Value} {t : TypeId} {v : Value} {Φ : Value → Res → Prop} (hb : w.heap[b]? = some (.cells cs t (0, 0))) (hΦ : Φ v (blk b cs t)) (e : Ending) (w' : World) (h : Ret0 w v e w') : RetM (blk b cs t).fp w Φ e w' := by
  obtain ⟨rfl, hbel⟩ := h
  exact ((St.init1 (r := blk b cs t) hb (blk_lt hb)).grow0 hbel).retM 0 rfl hΦ
def PAny {α : Type} (bs : Nat) (sl : Value) (xs : List UInt8) (e : Int) (p : PR α) (val : α → Value → Prop) : Value → Res → Prop := fun u r =>
  ∃ (a : α) (k' : Nat) (e' : Int), val a u ∧ r = rd bs sl k' e' ∧ (e ≠ 0 → e' = e) ∧ (e = 0 → (e' = 0 ∧ k' ≤ xs.length ∧ p = .ok (a, xs.drop k')) ∨ (e' ≠ 0 ∧ p = .error e'))
theorem any_of {α : Type} {bs : Nat} {sl : Value} {xs : List UInt8} {p : PR α} {val val' : α → Value → Prop} {bad : Value → Prop} {u : Value} {r : Res} (h : PRd bs sl xs p val bad u r) (hv : ∀ a z, val a z → val' a z) (hb : ∀ z, bad z → ∃ a, val' a z) : PAny bs sl xs 0 p val' u r := by
  obtain ⟨k', e', hr, hp⟩ := h
  rcases excp p with ⟨e, rfl⟩ | ⟨a, rest, rfl⟩
  · obtain ⟨h1, rfl, h2⟩ := hp
    obtain ⟨a, ha⟩ := hb u h1
    exact ⟨a, k', e', ha, hr, fun h => absurd rfl h, fun _ => .inr ⟨h2, rfl⟩⟩
  · obtain ⟨h1, rfl, h2, rfl⟩ := hp
    exact ⟨a, k', 0, hv _ _ h1, hr, fun h => absurd rfl h, fun _ => .inl ⟨rfl, h2, rfl⟩⟩
theorem RetM.mono {mu : Nat → Prop} {w w' : World} {Φ Ψ : Value → Res → Prop} {e : Ending} (h : RetM mu w Φ e w') (hi : ∀ v r, Φ v r → Ψ v r) : RetM mu w Ψ e w' := by
  obtain ⟨v, r, h1, h2, h3, h4, h5⟩ := h
  exact ⟨v, r, h1, h2, h3, h4, hi _ _ h5⟩
theorem rcount_any (w : World) (bs : Nat) (sl : Value) (xs : List UInt8) (k m : Nat) (e : Int) (hk : e = 0 → k ≤ xs.length) (hxl : xs.length ≤ 140737488355328) (hb : rdAt w bs sl k e) (hx : BX bs w sl xs) :
    Calls Tryz.prog 77 #[.pointer (some ⟨bs, 0, none⟩), .int .i64 (m : Int)] w (RetM (rd bs sl k e).fp w (PAny bs sl xs e (pCount m (xs.drop k)) (fun a z => a < 256 ∧ z = vi (a : Int)))) := by
  by_cases he : e = 0
  · subst he
    refine (rcount_calls w bs sl xs k m (hk rfl) hxl hb hx).mono fun ev w' h => h.mono fun u r hp => ?_
    obtain ⟨k', e', hr, hp⟩ := hp
    rcases excp (pCount m (xs.drop k)) with ⟨e, he⟩ | ⟨a, rest, he⟩
    · rw [he] at hp ⊢
      obtain ⟨⟨n, hn, rfl⟩, rfl, h2⟩ := hp
      exact ⟨n, k', e', ⟨hn, rfl⟩, hr, fun h => absurd rfl h, fun _ => .inr ⟨h2, rfl⟩⟩
    · rw [he] at hp ⊢
      obtain ⟨rfl, rfl, h2, rfl⟩ := hp
      refine ⟨a, k', 0, ⟨?_, rfl⟩, hr, fun h => absurd rfl h, fun _ => .inl ⟨rfl, h2, rfl⟩⟩
      rcases (drop_cases : xs.drop k = [] ∨ _) with hd | ⟨x, hd, hk1⟩
      · rw [hd] at he; cases he
      · rw [hd] at he
        simp only [pCount] at he
        split at he
        · cases he
        · injection he with he; injection he with h1 _
          rw [← h1]; exact x.toNat_lt
  · exact (rcount_err w bs sl k m e he hb).mono fun ev w' h => ret0_m hb ⟨0, k, e, ⟨by omega, rfl⟩, rfl, fun _ => rfl, fun h => absurd h he⟩ ev w' h
theorem rtake_any (w : World) (bs : Nat) (sl : Value) (xs : List UInt8) (k n : Nat) (e : Int) (hk : e = 0 → k ≤ xs.length) (hn : n ≤ 8191) (hxl : xs.length ≤ 140737488355328) (hb : rdAt w bs sl k e) (hx : BX bs w sl xs) :
    Calls Tryz.prog 79 #[.pointer (some ⟨bs, 0, none⟩), .int .i64 (n : Int)] w (RetM (rd bs sl k e).fp w (PAny bs sl xs e (pTake n (xs.drop k)) (fun a z => a.length ≤ 8191 ∧ SubV sl xs z a))) := by
  by_cases he : e = 0
  · subst he
    refine (rtake_calls w bs sl xs k n (hk rfl) hn hxl hb hx).mono fun ev w' h => h.mono fun u r hp => ?_
    obtain ⟨k', e', hr, hp⟩ := hp
    rcases excp (pTake n (xs.drop k)) with ⟨e, he⟩ | ⟨a, rest, he⟩
    · rw [he] at hp ⊢
      obtain ⟨rfl, rfl, h2⟩ := hp
      exact ⟨[], k', e', ⟨by simp, SubV.nil⟩, hr, fun h => absurd rfl h, fun _ => .inr ⟨h2, rfl⟩⟩
    · have hl := pTake_len he
      rw [he] at hp ⊢
      obtain ⟨h1, rfl, h2, rfl⟩ := hp
      exact ⟨a, k', 0, ⟨by omega, h1⟩, hr, fun h => absurd rfl h, fun _ => .inl ⟨rfl, h2, rfl⟩⟩
  · exact (rtake_err w bs sl k n e he hb).mono fun ev w' h => ret0_m hb ⟨[], k, e, ⟨by simp, SubV.nil⟩, rfl, fun _ => rfl, fun h => absurd h he⟩ ev w' h
theorem not_i64 {P : Program} {w : World} (a : Int) (h : -9223372036854775808 ≤ a ∧ a ≤ 9223372036854775807) : (Op.unary .xor (.int .i64 a)).run P w = .ok (.int .i64 (-a - 1)) w := by
  show Result.ok (Value.int .i64 (IntKind.i64.wrap ((BitVec.ofInt 64 (-1) ^^^ BitVec.ofInt 64 a).toNat : Int))) w = _
  have e : BitVec.ofInt 64 (-1) ^^^ BitVec.ofInt 64 a = ~~~ (BitVec.ofInt 64 a) := by
    rw [show BitVec.ofInt 64 (-1) = BitVec.allOnes 64 by rfl, BitVec.allOnes_xor]
  have h1 := ofInt_toNat64 a
  have h2 := (BitVec.ofInt 64 a).isLt
  have e3 : IntKind.i64.wrap ((2 ^ 64 - 1 - (BitVec.ofInt 64 a).toNat : Nat) : Int) = -a - 1 := by rw [IntKind.wrap_i64]; omega
  rw [e, BitVec.toNat_not, e3]
theorem and8191 (m : Nat) : m &&& 8191 = m % 8192 := Nat.and_two_pow_sub_one_eq_mod m 13
/-- What is left of a record when its kind, its numbers are read. -/
def contT (k : Int) (ns : List Int) : PR (List (List UInt8)) → Except Int Rec
  | .error e => .error e
  | .ok (ts, r3) => if r3.length > 0 then .error 23 else .ok (k, ns, ts)
def contN (k : Int) : PR (List Int) → Except Int Rec
  | .error e => .error e
  | .ok (ns, r2) => contT k ns (pTexts r2)
theorem pRec_ok {xs r : List UInt8} {k : Nat} (h : pOctet xs = .ok (k, r)) : pRec xs = contN k (pNums r) := by
  unfold pRec contN
  rw [h]
  dsimp only
  rcases excp (pNums r) with ⟨e, he⟩ | ⟨a, r2, he⟩
  · rw [he]
  · rw [he]
    dsimp only
    unfold contT
    rcases excp (pTexts r2) with ⟨e, he⟩ | ⟨a, r3, he⟩ <;> rw [he]
theorem pRec_err {xs : List UInt8} {e : Int} (h : pOctet xs = .error e) : pRec xs = .error e := by unfold pRec; rw [h]
theorem pNums_ok {xs r : List UInt8} {n : Nat} (h : pCount 64 xs = .ok (n, r)) : pNums xs = pNumsL n [] r := by unfold pNums; rw [h]
theorem pNums_err {xs : List UInt8} {e : Int} (h : pCount 64 xs = .error e) : pNums xs = .error e := by unfold pNums; rw [h]
theorem pTexts_ok {xs r : List UInt8} {n : Nat} (h : pCount 64 xs = .ok (n, r)) : pTexts xs = pTextsL n [] r := by unfold pTexts; rw [h]
theorem pTexts_err {xs : List UInt8} {e : Int} (h : pCount 64 xs = .error e) : pTexts xs = .error e := by unfold pTexts; rw [h]
theorem pNumsL_err {k : Nat} {acc : List Int} {ys : List UInt8} {e : Int} (he : pG ys 0 0 = .error e) : pNumsL (k + 1) acc ys = .error e := by
  conv => lhs; unfold pNumsL
  rw [he]
theorem pOctet_any (xs : List UInt8) (bs : Nat) (sl : Value) (u : Value) (r : Res) (h : PRd bs sl xs (pOctet (xs.drop 0)) (fun a z => z = vi (a : Int)) (fun z => z = vi 0) u r) :
    ∃ (kk k' : Nat) (e' : Int), u = vi kk ∧ r = rd bs sl k' e' ∧ (e' = 0 → k' ≤ xs.length ∧ pRec xs = contN kk (pNums (xs.drop k'))) ∧ (e' ≠ 0 → pRec xs = .error e') := by
  obtain ⟨k', e', hr, hp⟩ := h
  rw [List.drop_zero] at hp
  rcases excp (pOctet xs) with ⟨e, he⟩ | ⟨a, rest, he⟩
  · rw [he] at hp
    obtain ⟨rfl, rfl, h2⟩ := hp
    exact ⟨0, k', e', rfl, hr, fun h => absurd h h2, fun _ => pRec_err he⟩
  · rw [he] at hp
    obtain ⟨rfl, rfl, h2, rfl⟩ := hp
    exact ⟨a, k', 0, rfl, hr, fun _ => ⟨h2, pRec_ok he⟩, fun h => absurd rfl h⟩
end Go.Proofs.YtiminmnmeknioaaGreatDoor

/- The page's Decode. -/
set_option linter.unusedVariables false
namespace Go.Proofs.YtiminmnmeknioaaGreatDoor
open Go Go.RowKit

theorem comb {α : Type} {p q : PR α} {K K' : Prop} {eC e5 : Int} {x : α × List UInt8} (hT1 : eC = 0 → K ∧ p = q) (hT2 : eC ≠ 0 → p = .error eC) (hd1 : eC ≠ 0 → e5 = eC) (hd2 : eC = 0 → (e5 = 0 ∧ K' ∧ q = .ok x) ∨ (e5 ≠ 0 ∧ q = .error e5)) : (e5 = 0 → K' ∧ p = .ok x) ∧ (e5 ≠ 0 → p = .error e5) := by
  rcases Decidable.em (eC = 0) with h | h
  · rcases hd2 h with ⟨h1, h2, h3⟩ | ⟨h1, h3⟩
    · exact ⟨fun _ => ⟨h2, (hT1 h).2.trans h3⟩, fun h0 => absurd h1 h0⟩
    · exact ⟨fun h0 => absurd h0 h1, fun _ => (hT1 h).2.trans h3⟩
  · have := hd1 h
    subst this
    exact ⟨fun h0 => absurd h0 h, fun _ => hT2 h⟩
theorem texts_join2 {mu : Nat → Prop} {w0 w : World} {fp fp1 : Nat → Prop} {vs : List Value} {acc : List (List UInt8)} {t : List UInt8} {u row : Value} {i : Nat} {B : Res} {M : List Res} {e : TypeId} (h : St mu w0 (B :: rbR fp1 u t :: rowR e 1 row i (vs ++ [u]) :: mR fp vs acc :: M) w) :
    St mu w0 (rowR e 1 row i (vs ++ [u]) :: mR (fun b => fp b ∨ fp1 b) (vs ++ [u]) (acc ++ [t]) :: M) w := by
  have h1 := h.sub (M' := rbR fp1 u t :: rowR e 1 row i (vs ++ [u]) :: mR fp vs acc :: M) ((List.Sublist.refl _).cons _)
  have h2 := h1.front 2 rfl
  have h3 := h2.front 1 rfl
  have h4 := h3.msnoc
  exact h4.front 1 rfl

theorem rDecode_calls (w : World) (v : Value) (xs : List UInt8) (hx : BA w v xs) (hs : xs.length ≤ 140737488355328) : Calls Tryz.prog 40 #[v] w (RetL No w (PDec (decRec xs))) := by
  have hyl : (opened xs).1.length ≤ 140737488355328 := by
    unfold opened
    split
    · simp
    · split <;> simp <;> omega
  refine calls_of_C Tryz.func40 rfl Tryz.ntmps40 (Nat.le_of_ble_eq_true rfl) ?_
  refine C.less (L' := [(0, _)]) ?_ (Sub.cons rfl (Sub.nil _)) (fun w h => h)
  refine C.seq ?_
  refine C.region ?_
  refine J.allocc rfl rfl rfl rfl Tryz.zeroValue79 rfl (fun b2 => ?_)
  refine J.asg rfl rfl rfl rfl rfl ?_
  refine J.nil ?_
  refine C.seq ?_
  refine C.region ?_
  refine J.move rfl rfl rfl rfl rfl ?_
  refine J.callr rfl rfl rfl rfl rfl Tryz.call75 (fun w h => rOpen_calls w _ xs (h.ba hx) hs)  ?_
  rintro v17 r17 ⟨A17, c17, fp17, hA17, hc17, rfl, rfl⟩
  refine J.move rfl rfl rfl rfl rfl ?_
  refine J.ext rfl rfl rfl rfl rfl rfl ?_
  refine J.ext rfl rfl rfl rfl rfl rfl ?_
  refine J.asg rfl rfl rfl rfl rfl ?_
  refine J.asg rfl rfl rfl rfl rfl ?_
  refine J.nil ?_
  refine C.seq ?_
  refine C.seq ?_
  refine C.region ?_
  refine J.move rfl rfl rfl rfl rfl ?_
  refine J.bin rfl rfl rfl rfl rfl rfl (fun w => rfl) ?_
  refine J.nil ?_
  refine C.cond rfl (fun h => ?_) (fun h => ?_)
  · have h' : (opened xs).2 ≠ 0 := by simpa using h
    have e : decRec xs = .error (opened xs).2 := by unfold decRec; rw [if_pos h']
    rw [e]
    refine C.seq ?_
    refine C.region ?_
    refine J.bld (pl := #[(0, 1), (1, 1), (2, 1)]) (cells := #[_, _, _]) rfl rfl rfl rfl rfl Tryz.zeroValue79 Tryz.runUnderlying79 (fun w => by kernel_rfl) rfl ?_
    refine J.move rfl rfl rfl rfl rfl ?_
    first | refine J.stwc 1 rfl rfl rfl rfl rfl rfl Tryz.sizeOf79 (by first | rfl | assumption | simp [Value.cells, Value.oneCell']) rfl rfl ?_ | refine J.stw 1 rfl rfl rfl rfl rfl rfl Tryz.sizeOf79 (by first | rfl | assumption | simp [Value.cells, Value.oneCell']) rfl rfl ?_
    refine J.asg rfl rfl rfl rfl rfl ?_
    refine J.nil ?_
    refine C.ret ?_
    exact fin2 rfl (RV.cellw 1 rfl Tryz.isAgg79 rfl Tryz.sizeOf79) (RV.tmp rfl) (fun w' h => h.retL (Rs := []) (List.nil_sublist _) ⟨rfl, rfl⟩)
  · have h' : ¬ (opened xs).2 ≠ 0 := by simpa using h
    have e : decRec xs = pRec (opened xs).1 := by unfold decRec; rw [if_neg h']
    rw [e]
    refine C.skip ?_
    refine C.seq ?_
    refine C.region ?_
    refine J.move rfl rfl rfl rfl rfl ?_
    refine J.bld (pl := #[(0, 1), (1, 1), (2, 1)]) (cells := #[_, _, _]) rfl rfl rfl rfl rfl Tryz.zeroValue128 Tryz.runUnderlying128 (fun w => by kernel_rfl) rfl ?_
    first | refine J.boxc rfl rfl rfl rfl rfl rfl (fun b26 => ?_) | refine J.box rfl rfl rfl rfl rfl (fun b26 => ?_)
    refine J.asg rfl rfl rfl rfl rfl ?_
    refine J.nil ?_
    refine C.seq ?_
    refine C.region ?_
    refine J.move rfl rfl rfl rfl rfl ?_
    refine J.callm 0 rfl rfl rfl rfl rfl Tryz.call76 rfl (fun w h => roctet_calls w b26 _ (opened xs).1 0 (Nat.zero_le _) hyl (h.get 0 rfl) (h.bx2 0 1 (by decide) rfl rfl))  ?_
    rintro v28 r28 hp
    obtain ⟨kk, k1, e1, rfl, rfl, hP1, hP2⟩ := pOctet_any _ _ _ _ _ hp
    refine J.bld (pl := #[(0, 1), (1, 1), (2, 1)]) (cells := #[_, _, _]) rfl rfl rfl rfl rfl Tryz.zeroValue79 Tryz.runUnderlying79 (fun w => by kernel_rfl) rfl ?_
    refine J.allocc rfl rfl rfl rfl Tryz.zeroValue79 rfl (fun b7 => ?_)
    first | refine J.stwc 0 rfl rfl rfl rfl rfl rfl Tryz.sizeOf79 (by first | rfl | assumption | simp [Value.cells, Value.oneCell']) rfl rfl ?_ | refine J.stw 0 rfl rfl rfl rfl rfl rfl Tryz.sizeOf79 (by first | rfl | assumption | simp [Value.cells, Value.oneCell']) rfl rfl ?_
    refine J.nil ?_
    refine C.seq ?_
    refine C.region ?_
    refine J.move rfl rfl rfl rfl rfl ?_
    refine J.callm 1 rfl rfl rfl rfl rfl Tryz.call77 rfl (fun w h => rcount_any w b26 _ (opened xs).1 k1 64 e1 (fun h0 => (hP1 h0).1) hyl (h.get 1 rfl) (h.bx2 1 2 (by decide) rfl rfl))  ?_
    rintro v31 r31 ⟨n, k2, e2, ⟨hn, rfl⟩, rfl, hc1, hc2⟩
    have hQ1 : e2 = 0 → k2 ≤ (opened xs).1.length ∧ pRec (opened xs).1 = contN kk (pNumsL n [] ((opened xs).1.drop k2)) := fun h0 => by
      have he2 : e1 = 0 := by
        rcases Decidable.em (e1 = 0) with h | h
        · exact h
        · exact absurd ((hc1 h).symm.trans h0) h
      rcases hc2 he2 with ⟨_, h2, h3⟩ | ⟨h2, _⟩
      · exact ⟨h2, by rw [(hP1 he2).2, pNums_ok h3]⟩
      · exact absurd h0 h2
    have hQ2 : e2 ≠ 0 → pRec (opened xs).1 = .error e2 := fun h0 => by
      rcases Decidable.em (e1 = 0) with h | h
      · rcases hc2 h with ⟨h1, _, _⟩ | ⟨_, h3⟩
        · exact absurd h1 h0
        · rw [(hP1 h).2, pNums_err h3]; rfl
      · rw [hc1 h]; exact hP2 h
    refine J.asg rfl rfl rfl rfl rfl ?_
    refine J.nil ?_
    refine C.seq ?_
    refine C.seq ?_
    refine C.region ?_
    refine J.asg rfl rfl rfl rfl rfl ?_
    refine J.nil ?_
    refine C.block ?_
    refine C.loop (σ := Nat × List Int × Nat × Int × Value) (fun s => s.2.1.length = s.1 ∧ s.1 ≤ n ∧ (s.2.2.2.1 = 0 → s.2.2.1 ≤ (opened xs).1.length ∧ pRec (opened xs).1 = contN kk (pNumsL (n - s.1) s.2.1 ((opened xs).1.drop s.2.2.1))) ∧ (s.2.2.2.1 ≠ 0 → pRec (opened xs).1 = .error s.2.2.2.1)) (fun s => [(2, .pointer (some ⟨b2, 0, none⟩)), (4, .slice A17 (opened xs).1.length c17), (6, .pointer (some ⟨b26, 0, none⟩)), (7, .pointer (some ⟨b7, 0, none⟩)), (8, vi (n : Int)), (9, vi (s.1 : Int))]) (fun s => [rowR 3 1 s.2.2.2.2 s.1 (s.2.1.map vi), blk b7 #[vi kk, s.2.2.2.2, .slice none 0 0] 79, rd b26 (.slice A17 (opened xs).1.length c17) s.2.2.1 s.2.2.2.1, rbR fp17 (.slice A17 (opened xs).1.length c17) (opened xs).1, blk b2 #[vi 0, .slice none 0 0, .slice none 0 0] 79]) (fun s => n - s.1) (0, [], k2, e2, .slice none 0 0) ⟨rfl, Nat.zero_le _, hQ1, hQ2⟩ ?_ ?_ ?_
    · exact (Sub.cons rfl (Sub.cons rfl (Sub.cons rfl (Sub.cons rfl (Sub.cons rfl (Sub.cons rfl (Sub.nil _)))))))
    · exact fun w h => h.nilRow _ _
    clear hQ1 hQ2 hc1 hc2 hP1 hP2
    rintro ⟨i, acc, k2, e2, row⟩ ⟨hal, hin, hQ1, hQ2⟩
    dsimp only at hal hin hQ1 hQ2 ⊢
    refine C.seq ?_
    refine C.seq ?_
    refine C.region ?_
    refine J.move rfl rfl rfl rfl rfl ?_
    refine J.move rfl rfl rfl rfl rfl ?_
    refine J.bin rfl rfl rfl rfl rfl rfl (fun w => rfl) ?_
    refine J.move rfl rfl rfl rfl rfl ?_
    rcases Decidable.em (i < n) with hlt | hge
    · have hni : n - i = (n - (i + 1)) + 1 := by omega
      rw [dec_t (show (i : Int) < n by omega)]
      refine J.want rfl rfl rfl rfl ?_
      refine J.move rfl rfl rfl rfl rfl ?_
      refine J.want rfl rfl rfl rfl ?_
      refine J.nilck rfl rfl rfl rfl rfl ?_
      refine J.want rfl rfl rfl rfl ?_
      refine J.fld (k := 2) rfl rfl rfl rfl rfl Tryz.runUnderlying128 rfl rfl Tryz.sizeOf3 ?_
      refine J.want rfl rfl rfl rfl ?_
      refine J.ldo 2 rfl rfl rfl rfl rfl Tryz.isAgg3 rfl rfl ?_
      refine J.want rfl rfl rfl rfl ?_
      refine J.bin rfl rfl rfl rfl rfl rfl (fun w => rfl) ?_
      refine J.pick rfl rfl rfl rfl rfl rfl ?_
      refine J.nil ?_
      rcases Decidable.em (e2 = 0) with he0 | he0
      · subst he0
        have hq := hQ1 rfl
        refine C.cond_t rfl ?_
        refine C.skip ?_
        refine C.seq ?_
        refine C.block ?_
        refine C.seq ?_
        refine C.region ?_
        refine J.move rfl rfl rfl rfl rfl ?_
        refine J.callm 2 rfl rfl rfl rfl rfl Tryz.call78 rfl (fun w h => rgroups_rd_calls w b26 _ (opened xs).1 k2 hq.1 hyl (h.get 2 rfl) (h.bx2 2 3 (by decide) rfl rfl))  ?_
        rintro v45 r45 ⟨k3, e3, rfl, hp⟩
        obtain ⟨m, rfl, hm, hN1, hN2⟩ : ∃ m : Nat, v45 = .int .u64 (m : Int) ∧ m < 2 ^ 64 ∧ (e3 = 0 → k3 ≤ (opened xs).1.length ∧ pRec (opened xs).1 = contN kk (pNumsL (n - (i + 1)) (acc ++ [unf m]) ((opened xs).1.drop k3))) ∧ (e3 ≠ 0 → pRec (opened xs).1 = .error e3) := by
          rcases excp (pG ((opened xs).1.drop k2) 0 0) with ⟨e, he⟩ | ⟨m, r, he⟩
          · rw [he] at hp
            obtain ⟨rfl, rfl, h2⟩ := hp
            exact ⟨0, rfl, by omega, fun h => absurd h h2, fun _ => by rw [hq.2, hni, pNumsL_err he]; rfl⟩
          · rw [he] at hp
            obtain ⟨rfl, rfl, h2, rfl⟩ := hp
            exact ⟨m, rfl, pG_lt _ 0 0 m _ (by omega) rfl (by omega) he, fun _ => ⟨h2, by rw [hq.2, hni, pNumsL_ok he]⟩, fun h => absurd rfl h⟩
        refine J.asg rfl rfl rfl rfl rfl ?_
        refine J.nil ?_
        refine C.seq ?_
        refine C.region ?_
        refine J.move rfl rfl rfl rfl rfl ?_
        refine J.bin rfl rfl rfl rfl rfl rfl (fun w => shr_nat m 1 (by decide)) ?_
        refine J.conv rfl rfl rfl rfl rfl Tryz.runUnderlying105 Tryz.runUnderlying3 (IntWalk.i64_in _ (by omega)) ?_
        refine J.asg rfl rfl rfl rfl rfl ?_
        refine J.nil ?_
        refine C.seq ?_
        refine C.seq ?_
        refine C.region ?_
        refine J.move rfl rfl rfl rfl rfl ?_
        refine J.bin rfl rfl rfl rfl rfl rfl (fun w => and_u64 m 1 (by omega) (by decide)) ?_
        rw [Nat.and_one_is_mod]
        refine J.bin rfl rfl rfl rfl rfl rfl (fun w => rfl) ?_
        refine J.nil ?_
        rcases Decidable.em (m % 2 = 1) with h1 | h1
        · rw [show (((m % 2 : Nat) : Int) == 1) = true by simp [h1]]
          refine C.cond_t rfl ?_
          refine C.region ?_
          refine J.move rfl rfl rfl rfl rfl ?_
          refine J.un rfl rfl rfl rfl rfl (fun w => not_i64 _ (by omega)) ?_
          rw [show -((m / 2 ^ 1 : Nat) : Int) - 1 = unf m by unfold unf; rw [if_neg (by omega)]]
          refine J.asg rfl rfl rfl rfl rfl ?_
          refine J.nil ?_
          refine C.region ?_
          refine J.fld (k := 1) rfl rfl rfl rfl rfl Tryz.runUnderlying79 rfl rfl Tryz.sizeOf73 ?_
          refine J.ldo 1 rfl rfl rfl rfl rfl Tryz.isAgg73 rfl rfl ?_
          refine J.move rfl rfl rfl rfl rfl ?_
          refine J.blds (vs := [_]) (cells := [_]) rfl rfl rfl rfl rfl Tryz.zeroValue3 Tryz.runUnderlying73 Tryz.sizeOf3 rfl rfl rfl rfl (fun b57 => ?_)
          refine J.app 1 rfl rfl rfl rfl rfl rfl Tryz.underlying73 inf3 rfl rfl rfl rfl (news := [vi (unf m)]) rfl (fun w h hn => srcO h 0 rfl) rfl (by omega) (fun v58 => ?_)
          refine J.fact (fun w h => row_form (h.get 1 rfl)) ?_
          rintro ⟨A58, c58, rfl, -, -⟩
          refine J.fld (k := 1) rfl rfl rfl rfl rfl Tryz.runUnderlying79 rfl rfl Tryz.sizeOf73 ?_
          refine J.st1 2 rfl rfl rfl rfl rfl rfl Tryz.sizeOf73 (by first | rfl | assumption | simp [Value.cells, Value.oneCell']) rfl rfl rfl ?_
          refine J.nil ?_
          refine C.region ?_
          refine J.move rfl rfl rfl rfl rfl ?_
          refine J.bin rfl rfl rfl rfl rfl rfl (fun w => ra_add (by omega)) ?_
          refine J.asg rfl rfl rfl rfl rfl ?_
          refine J.nil ?_
          refine ⟨rfl, (i + 1, acc ++ [unf m], k3, e3, .slice A58 (i + 1) c58), ⟨by simp [hal], by dsimp only; omega, hN1, hN2⟩, by dsimp only; omega, (Sub.cons rfl (Sub.cons rfl (Sub.cons rfl (Sub.cons rfl (Sub.cons rfl (Sub.cons rfl (Sub.nil _))))))), fun w h => ?_⟩
          have h2 := h.sub ((List.Sublist.refl _).cons _)
          dsimp only
          rw [List.map_append]
          exact h2
        · rw [show (((m % 2 : Nat) : Int) == 1) = false by first | (simp; done) | (simp; omega)]
          refine C.cond_f rfl ?_
          refine C.skip ?_
          refine C.region ?_
          refine J.fld (k := 1) rfl rfl rfl rfl rfl Tryz.runUnderlying79 rfl rfl Tryz.sizeOf73 ?_
          refine J.ldo 1 rfl rfl rfl rfl rfl Tryz.isAgg73 rfl rfl ?_
          refine J.move rfl rfl rfl rfl rfl ?_
          refine J.blds (vs := [_]) (cells := [_]) rfl rfl rfl rfl rfl Tryz.zeroValue3 Tryz.runUnderlying73 Tryz.sizeOf3 rfl rfl rfl rfl (fun b57 => ?_)
          refine J.fact (p := ((m / 2 ^ 1 : Nat) : Int) = unf m) (fun _ _ => by unfold unf; rw [if_pos (by omega)]) (fun hu => ?_)
          rw [hu]
          refine J.app 1 rfl rfl rfl rfl rfl rfl Tryz.underlying73 inf3 rfl rfl rfl rfl (news := [vi (unf m)]) rfl (fun w h hn => srcO h 0 rfl) rfl (by omega) (fun v58 => ?_)
          refine J.fact (fun w h => row_form (h.get 1 rfl)) ?_
          rintro ⟨A58, c58, rfl, -, -⟩
          refine J.fld (k := 1) rfl rfl rfl rfl rfl Tryz.runUnderlying79 rfl rfl Tryz.sizeOf73 ?_
          refine J.st1 2 rfl rfl rfl rfl rfl rfl Tryz.sizeOf73 (by first | rfl | assumption | simp [Value.cells, Value.oneCell']) rfl rfl rfl ?_
          refine J.nil ?_
          refine C.region ?_
          refine J.move rfl rfl rfl rfl rfl ?_
          refine J.bin rfl rfl rfl rfl rfl rfl (fun w => ra_add (by omega)) ?_
          refine J.asg rfl rfl rfl rfl rfl ?_
          refine J.nil ?_
          refine ⟨rfl, (i + 1, acc ++ [unf m], k3, e3, .slice A58 (i + 1) c58), ⟨by simp [hal], by dsimp only; omega, hN1, hN2⟩, by dsimp only; omega, (Sub.cons rfl (Sub.cons rfl (Sub.cons rfl (Sub.cons rfl (Sub.cons rfl (Sub.cons rfl (Sub.nil _))))))), fun w h => ?_⟩
          have h2 := h.sub ((List.Sublist.refl _).cons _)
          dsimp only
          rw [List.map_append]
          exact h2
      · rw [show (e2 == 0) = false by simpa using he0]
        refine C.cond_f rfl ?_
        refine C.exit rfl ?_
        refine C.seq ?_
        refine C.region ?_
        refine J.move rfl rfl rfl rfl rfl ?_
        replace hQ1 : e2 = 0 → k2 ≤ (opened xs).1.length ∧ pRec (opened xs).1 = contN kk (.ok (acc, (opened xs).1.drop k2)) := fun h => absurd h he0
        refine J.fact (fun w h => row_form (h.get 0 rfl)) ?_
        rintro ⟨A1, c1, rfl, -, -⟩
        have hal3 : acc.length = i := hal
        subst hal3
        refine J.callm 2 rfl rfl rfl rfl rfl Tryz.call77 rfl (fun w h => rcount_any w b26 _ (opened xs).1 k2 64 e2 (fun h0 => (hQ1 h0).1) hyl (h.get 2 rfl) (h.bx2 2 3 (by decide) rfl rfl))  ?_
        rintro v61 r61 ⟨n2, k3, e3, ⟨hn2, rfl⟩, rfl, hc1, hc2⟩
        have hR1 : e3 = 0 → k3 ≤ (opened xs).1.length ∧ pRec (opened xs).1 = contT kk acc (pTextsL n2 [] ((opened xs).1.drop k3)) := fun h0 => by
          have he2 : e2 = 0 := by
            rcases Decidable.em (e2 = 0) with h | h
            · exact h
            · exact absurd ((hc1 h).symm.trans h0) h
          rcases hc2 he2 with ⟨_, h2, h3⟩ | ⟨h2, _⟩
          · exact ⟨h2, by rw [(hQ1 he2).2]; show contT _ _ (pTexts _) = _; rw [pTexts_ok h3]⟩
          · exact absurd h0 h2
        have hR2 : e3 ≠ 0 → pRec (opened xs).1 = .error e3 := fun h0 => by
          rcases Decidable.em (e2 = 0) with h | h
          · rcases hc2 h with ⟨h1, _, _⟩ | ⟨_, h3⟩
            · exact absurd h1 h0
            · rw [(hQ1 h).2]; show contT _ _ (pTexts _) = _; rw [pTexts_err h3]; rfl
          · rw [hc1 h]; exact hQ2 h
        refine J.asg rfl rfl rfl rfl rfl ?_
        refine J.nil ?_
        refine C.seq ?_
        refine C.seq ?_
        refine C.region ?_
        refine J.asg rfl rfl rfl rfl rfl ?_
        refine J.nil ?_
        refine C.block ?_
        refine C.loop (σ := Nat × List (List UInt8) × Nat × Int × Value × List Value × (Nat → Prop)) (fun s => s.2.1.length = s.1 ∧ s.1 ≤ n2 ∧ (s.2.2.2.1 = 0 → s.2.2.1 ≤ (opened xs).1.length ∧ pRec (opened xs).1 = contT kk acc (pTextsL (n2 - s.1) s.2.1 ((opened xs).1.drop s.2.2.1))) ∧ (s.2.2.2.1 ≠ 0 → pRec (opened xs).1 = .error s.2.2.2.1)) (fun s => [(2, .pointer (some ⟨b2, 0, none⟩)), (4, .slice A17 (opened xs).1.length c17), (6, .pointer (some ⟨b26, 0, none⟩)), (7, .pointer (some ⟨b7, 0, none⟩)), (12, vi (n2 : Int)), (13, vi (s.1 : Int))]) (fun s => [rowR 22 1 s.2.2.2.2.1 s.1 s.2.2.2.2.2.1, mR s.2.2.2.2.2.2 s.2.2.2.2.2.1 s.2.1, rowR 3 1 (.slice A1 acc.length c1) acc.length (acc.map vi), blk b7 #[vi kk, .slice A1 acc.length c1, s.2.2.2.2.1] 79, rd b26 (.slice A17 (opened xs).1.length c17) s.2.2.1 s.2.2.2.1, rbR fp17 (.slice A17 (opened xs).1.length c17) (opened xs).1, blk b2 #[vi 0, .slice none 0 0, .slice none 0 0] 79]) (fun s => n2 - s.1) (0, [], k3, e3, .slice none 0 0, [], fun _ => False) ⟨rfl, Nat.zero_le _, hR1, hR2⟩ ?_ ?_ ?_
        · exact (Sub.cons rfl (Sub.cons rfl (Sub.cons rfl (Sub.cons rfl (Sub.cons rfl (Sub.cons rfl (Sub.nil _)))))))
        · exact fun w h => h.mnil.nilRow _ _
        clear hR1 hR2 hc1 hc2
        rintro ⟨i, tacc, k3, e3, row2, vs, fpt⟩ ⟨htl, hin2, hR1, hR2⟩
        dsimp only at htl hin2 hR1 hR2 ⊢
        refine C.seq ?_
        refine C.seq ?_
        refine C.region ?_
        refine J.move rfl rfl rfl rfl rfl ?_
        refine J.move rfl rfl rfl rfl rfl ?_
        refine J.bin rfl rfl rfl rfl rfl rfl (fun w => rfl) ?_
        refine J.move rfl rfl rfl rfl rfl ?_
        rcases Decidable.em (i < n2) with hlt | hge
        · have hni : n2 - i = (n2 - (i + 1)) + 1 := by omega
          rw [dec_t (show (i : Int) < n2 by omega)]
          refine J.want rfl rfl rfl rfl ?_
          refine J.move rfl rfl rfl rfl rfl ?_
          refine J.want rfl rfl rfl rfl ?_
          refine J.nilck rfl rfl rfl rfl rfl ?_
          refine J.want rfl rfl rfl rfl ?_
          refine J.fld (k := 2) rfl rfl rfl rfl rfl Tryz.runUnderlying128 rfl rfl Tryz.sizeOf3 ?_
          refine J.want rfl rfl rfl rfl ?_
          refine J.ldo 4 rfl rfl rfl rfl rfl Tryz.isAgg3 rfl rfl ?_
          refine J.want rfl rfl rfl rfl ?_
          refine J.bin rfl rfl rfl rfl rfl rfl (fun w => rfl) ?_
          refine J.pick rfl rfl rfl rfl rfl rfl ?_
          refine J.nil ?_
          rcases Decidable.em (e3 = 0) with he0 | he0
          · subst he0
            have hq := hR1 rfl
            refine C.cond_t rfl ?_
            refine C.skip ?_
            refine C.seq ?_
            refine C.block ?_
            refine C.seq ?_
            refine C.region ?_
            refine J.move rfl rfl rfl rfl rfl ?_
            refine J.callm 4 rfl rfl rfl rfl rfl Tryz.call78 rfl (fun w h => rgroups_rd_calls w b26 _ (opened xs).1 k3 hq.1 hyl (h.get 4 rfl) (h.bx2 4 5 (by decide) rfl rfl))  ?_
            rintro v75 r75 ⟨k4, e4, rfl, hp⟩
            obtain ⟨m, rfl, hm, hT1, hT2⟩ : ∃ m : Nat, v75 = .int .u64 (m : Int) ∧ m < 2 ^ 64 ∧ (e4 = 0 → k4 ≤ (opened xs).1.length ∧ pText ((opened xs).1.drop k3) = if m > 4096 then .error 5 else pTake m ((opened xs).1.drop k4)) ∧ (e4 ≠ 0 → pText ((opened xs).1.drop k3) = .error e4) := by
              rcases excp (pG ((opened xs).1.drop k3) 0 0) with ⟨e, he⟩ | ⟨m, r, he⟩
              · rw [he] at hp
                obtain ⟨rfl, rfl, h2⟩ := hp
                exact ⟨0, rfl, by omega, fun h => absurd h h2, fun _ => by unfold pText; rw [he]⟩
              · rw [he] at hp
                obtain ⟨rfl, rfl, h2, rfl⟩ := hp
                exact ⟨m, rfl, pG_lt _ 0 0 m _ (by omega) rfl (by omega) he, fun _ => ⟨h2, by unfold pText; rw [he]⟩, fun h => absurd rfl h⟩
            refine J.asg rfl rfl rfl rfl rfl ?_
            refine J.nil ?_
            refine C.seq ?_
            refine C.seq ?_
            refine C.region ?_
            refine J.move rfl rfl rfl rfl rfl ?_
            refine J.nilck rfl rfl rfl rfl rfl ?_
            refine J.fld (k := 2) rfl rfl rfl rfl rfl Tryz.runUnderlying128 rfl rfl Tryz.sizeOf3 ?_
            refine J.ldo 4 rfl rfl rfl rfl rfl Tryz.isAgg3 rfl rfl ?_
            refine J.bin rfl rfl rfl rfl rfl rfl (fun w => rfl) ?_
            refine J.move rfl rfl rfl rfl rfl ?_
            rcases Decidable.em (e4 = 0) with he4 | he4
            · subst he4
              refine J.want rfl rfl rfl rfl ?_
              refine J.move rfl rfl rfl rfl rfl ?_
              refine J.want rfl rfl rfl rfl ?_
              refine J.bin rfl rfl rfl rfl rfl rfl (fun w => rfl) ?_
              refine J.pick rfl rfl rfl rfl rfl rfl ?_
              refine J.nil ?_
              refine C.cond rfl (fun h5 => ?_) (fun h5 => ?_)
              · have h5 : m > 4096 := by have := of_decide_eq_true h5; omega
                replace hT2 : (5 : Int) ≠ 0 → pText ((opened xs).1.drop k3) = .error 5 := fun _ => by rw [(hT1 rfl).2, if_pos h5]
                replace hT1 : (5 : Int) = 0 → k4 ≤ (opened xs).1.length ∧ pText ((opened xs).1.drop k3) = pTake (m % 8192) ((opened xs).1.drop k4) := fun h => by omega
                refine C.region ?_
                refine J.move rfl rfl rfl rfl rfl ?_
                refine J.nilck rfl rfl rfl rfl rfl ?_
                refine J.fld (k := 2) rfl rfl rfl rfl rfl Tryz.runUnderlying128 rfl rfl Tryz.sizeOf3 ?_
                refine J.st1 4 rfl rfl rfl rfl rfl rfl Tryz.sizeOf3 (by first | rfl | assumption | simp [Value.cells, Value.oneCell']) rfl rfl rfl ?_
                refine J.nil ?_
                refine C.regionD (fun w' => St No w [blk b7 #[vi kk, .slice A1 acc.length c1, row2] 79] w') 11 (by kernel_rfl) ?_
                refine JD.take 0 rfl rfl rfl rfl (by kernel_rfl) (fun w h => ((by first | exact h.pick 3 rfl | exact h.pick 4 rfl | exact h.pick 5 rfl))) (R.fld (k := 2) rfl rfl Tryz.runUnderlying79 rfl rfl Tryz.sizeOf44) ?_
                refine JD.take 2 rfl rfl rfl rfl (by kernel_rfl) (fun w h => ((by first | exact h.pick 3 rfl | exact h.pick 4 rfl | exact h.pick 5 rfl))) (R.move rfl rfl) ?_
                refine JD.take 3 rfl rfl rfl rfl (by kernel_rfl) (fun w h => ((by first | exact h.pick 3 rfl | exact h.pick 4 rfl | exact h.pick 5 rfl))) (R.move rfl rfl) ?_
                refine JD.take 1 rfl rfl rfl rfl (by kernel_rfl) (fun w h => ((by first | exact h.pick 3 rfl | exact h.pick 4 rfl | exact h.pick 5 rfl))) (R.ld rfl rfl Tryz.isAgg44 (fun w h => cellO h 0 rfl rfl)) ?_
                refine JD.step 4 rfl (by kernel_rfl) ?_
                refine J.bin rfl rfl rfl rfl rfl rfl (fun w => and_u64 m 8191 (by omega) (by decide)) ?_
                refine J.nil ⟨(fun _ w h => ((by first | exact h.pick 3 rfl | exact h.pick 4 rfl | exact h.pick 5 rfl))), ?_⟩
                refine JD.step 5 rfl (by kernel_rfl) ?_
                refine J.conv rfl rfl rfl rfl rfl Tryz.runUnderlying105 Tryz.runUnderlying3 ((congrArg (fun t : Nat => IntKind.i64.wrap (t : Int)) (and8191 m)).trans (IntWalk.i64_in _ (by omega))) ?_
                refine J.nil ⟨(fun _ w h => ((by first | exact h.pick 3 rfl | exact h.pick 4 rfl | exact h.pick 5 rfl))), ?_⟩
                refine JD.step 6 rfl (by kernel_rfl) ?_
                refine J.callm 4 rfl rfl rfl rfl rfl Tryz.call79 rfl (fun w h => rtake_any w b26 _ (opened xs).1 k4 (m % 8192) _ (fun h0 => (hT1 h0).1) (by omega) hyl (h.get 4 rfl) (h.bx2 4 5 (by decide) rfl rfl))  ?_
                rintro v94 r94 ⟨a, k5, e5, ⟨hal2, hz⟩, rfl, hd1, hd2⟩
                have hU := comb hT1 hT2 hd1 hd2
                refine J.nil ⟨(fun _ w h => ((by first | exact h.pick 3 rfl | exact h.pick 4 rfl | exact h.pick 5 rfl))), ?_⟩
                refine JD.step 7 rfl (by kernel_rfl) ?_
                refine J.callr rfl rfl rfl rfl rfl Tryz.call57 (fun w h => Copied_calls w _ a (BX.ba (hz _ _ (h.bx2 4 5 (by decide) rfl rfl))) (by omega))  ?_
                rintro v95 r95 ⟨A95, c95, fp95, hA95, hc95, rfl, rfl⟩
                refine J.nil ⟨(fun _ w h => ((by first | exact h.pick 3 rfl | exact h.pick 4 rfl | exact h.pick 5 rfl))), ?_⟩
                refine JD.step 8 rfl (by kernel_rfl) ?_
                refine J.blds (vs := [_]) (cells := [_]) rfl rfl rfl rfl rfl Tryz.zeroValue22 Tryz.runUnderlying44 Tryz.sizeOf22 rfl rfl rfl rfl (fun b96 => ?_)
                refine J.nil ⟨(fun _ w h => ((by first | exact h.pick 3 rfl | exact h.pick 4 rfl | exact h.pick 5 rfl))), ?_⟩
                refine JD.step 9 rfl (by kernel_rfl) ?_
                refine J.app 2 rfl rfl rfl rfl rfl rfl Tryz.underlying44 inf22 rfl rfl rfl rfl (news := [.slice A95 a.length c95]) rfl (fun w h hn => srcO h 0 rfl) rfl (by omega) (fun v97 => ?_)
                refine J.fact (fun w h => row_form (h.get 2 rfl)) ?_
                rintro ⟨A97, c97, rfl, -, -⟩
                refine J.nil ⟨(fun _ w h => ((by first | exact h.pick 3 rfl | exact h.pick 4 rfl | exact h.pick 5 rfl))), ?_⟩
                refine JD.take 10 rfl rfl rfl rfl (by kernel_rfl) (fun w h => ((by first | exact h.pick 3 rfl | exact h.pick 4 rfl | exact h.pick 5 rfl))) (R.fld (k := 2) rfl rfl Tryz.runUnderlying79 rfl rfl Tryz.sizeOf44) ?_
                refine JD.step 11 rfl (by kernel_rfl) ?_
                refine J.st1 5 rfl rfl rfl rfl rfl rfl Tryz.sizeOf44 (by first | rfl | assumption | simp [Value.cells, Value.oneCell']) rfl rfl rfl ?_
                refine J.nil ⟨(fun h => by cases h), ?_⟩
                refine JD.done (by kernel_rfl) ?_
                refine C.region ?_
                refine J.move rfl rfl rfl rfl rfl ?_
                refine J.bin rfl rfl rfl rfl rfl rfl (fun w => ra_add (by omega)) ?_
                refine J.asg rfl rfl rfl rfl rfl ?_
                refine J.nil ?_
                refine ⟨rfl, (i + 1, tacc ++ [a], k5, e5, .slice A97 (i + 1) c97, vs ++ [.slice A95 a.length c95], fun b => fpt b ∨ fp95 b), ⟨by simp [htl], by dsimp only; omega, fun h0 => ⟨(hU.1 h0).1, by dsimp only; rw [hq.2, hni, pTextsL_ok (hU.1 h0).2]⟩, fun h0 => by dsimp only; rw [hq.2, hni, pTextsL_err (hU.2 h0)]; rfl⟩, by dsimp only; omega, (Sub.cons rfl (Sub.cons rfl (Sub.cons rfl (Sub.cons rfl (Sub.cons rfl (Sub.cons rfl (Sub.nil _))))))), fun w h => texts_join2 (u := .slice A95 a.length c95) (row := .slice A97 (i + 1) c97) (vs := vs) (acc := tacc) (t := a) (fp := fpt) (fp1 := fp95) (B := blk b96 _ 22) (i := i + 1) (e := 22) h⟩
              · have h5 : ¬ m > 4096 := by have := of_decide_eq_false h5; omega
                replace hT1 : (0 : Int) = 0 → k4 ≤ (opened xs).1.length ∧ pText ((opened xs).1.drop k3) = pTake (m % 8192) ((opened xs).1.drop k4) := fun h => ⟨(hT1 rfl).1, by rw [(hT1 rfl).2, if_neg h5, Nat.mod_eq_of_lt (by omega)]⟩
                refine C.skip ?_
                refine C.regionD (fun w' => St No w [blk b7 #[vi kk, .slice A1 acc.length c1, row2] 79] w') 11 (by kernel_rfl) ?_
                refine JD.take 0 rfl rfl rfl rfl (by kernel_rfl) (fun w h => ((by first | exact h.pick 3 rfl | exact h.pick 4 rfl | exact h.pick 5 rfl))) (R.fld (k := 2) rfl rfl Tryz.runUnderlying79 rfl rfl Tryz.sizeOf44) ?_
                refine JD.take 2 rfl rfl rfl rfl (by kernel_rfl) (fun w h => ((by first | exact h.pick 3 rfl | exact h.pick 4 rfl | exact h.pick 5 rfl))) (R.move rfl rfl) ?_
                refine JD.take 3 rfl rfl rfl rfl (by kernel_rfl) (fun w h => ((by first | exact h.pick 3 rfl | exact h.pick 4 rfl | exact h.pick 5 rfl))) (R.move rfl rfl) ?_
                refine JD.take 1 rfl rfl rfl rfl (by kernel_rfl) (fun w h => ((by first | exact h.pick 3 rfl | exact h.pick 4 rfl | exact h.pick 5 rfl))) (R.ld rfl rfl Tryz.isAgg44 (fun w h => cellO h 0 rfl rfl)) ?_
                refine JD.step 4 rfl (by kernel_rfl) ?_
                refine J.bin rfl rfl rfl rfl rfl rfl (fun w => and_u64 m 8191 (by omega) (by decide)) ?_
                refine J.nil ⟨(fun _ w h => ((by first | exact h.pick 3 rfl | exact h.pick 4 rfl | exact h.pick 5 rfl))), ?_⟩
                refine JD.step 5 rfl (by kernel_rfl) ?_
                refine J.conv rfl rfl rfl rfl rfl Tryz.runUnderlying105 Tryz.runUnderlying3 ((congrArg (fun t : Nat => IntKind.i64.wrap (t : Int)) (and8191 m)).trans (IntWalk.i64_in _ (by omega))) ?_
                refine J.nil ⟨(fun _ w h => ((by first | exact h.pick 3 rfl | exact h.pick 4 rfl | exact h.pick 5 rfl))), ?_⟩
                refine JD.step 6 rfl (by kernel_rfl) ?_
                refine J.callm 4 rfl rfl rfl rfl rfl Tryz.call79 rfl (fun w h => rtake_any w b26 _ (opened xs).1 k4 (m % 8192) _ (fun h0 => (hT1 h0).1) (by omega) hyl (h.get 4 rfl) (h.bx2 4 5 (by decide) rfl rfl))  ?_
                rintro v94 r94 ⟨a, k5, e5, ⟨hal2, hz⟩, rfl, hd1, hd2⟩
                have hU := comb hT1 hT2 hd1 hd2
                refine J.nil ⟨(fun _ w h => ((by first | exact h.pick 3 rfl | exact h.pick 4 rfl | exact h.pick 5 rfl))), ?_⟩
                refine JD.step 7 rfl (by kernel_rfl) ?_
                refine J.callr rfl rfl rfl rfl rfl Tryz.call57 (fun w h => Copied_calls w _ a (BX.ba (hz _ _ (h.bx2 4 5 (by decide) rfl rfl))) (by omega))  ?_
                rintro v95 r95 ⟨A95, c95, fp95, hA95, hc95, rfl, rfl⟩
                refine J.nil ⟨(fun _ w h => ((by first | exact h.pick 3 rfl | exact h.pick 4 rfl | exact h.pick 5 rfl))), ?_⟩
                refine JD.step 8 rfl (by kernel_rfl) ?_
                refine J.blds (vs := [_]) (cells := [_]) rfl rfl rfl rfl rfl Tryz.zeroValue22 Tryz.runUnderlying44 Tryz.sizeOf22 rfl rfl rfl rfl (fun b96 => ?_)
                refine J.nil ⟨(fun _ w h => ((by first | exact h.pick 3 rfl | exact h.pick 4 rfl | exact h.pick 5 rfl))), ?_⟩
                refine JD.step 9 rfl (by kernel_rfl) ?_
                refine J.app 2 rfl rfl rfl rfl rfl rfl Tryz.underlying44 inf22 rfl rfl rfl rfl (news := [.slice A95 a.length c95]) rfl (fun w h hn => srcO h 0 rfl) rfl (by omega) (fun v97 => ?_)
                refine J.fact (fun w h => row_form (h.get 2 rfl)) ?_
                rintro ⟨A97, c97, rfl, -, -⟩
                refine J.nil ⟨(fun _ w h => ((by first | exact h.pick 3 rfl | exact h.pick 4 rfl | exact h.pick 5 rfl))), ?_⟩
                refine JD.take 10 rfl rfl rfl rfl (by kernel_rfl) (fun w h => ((by first | exact h.pick 3 rfl | exact h.pick 4 rfl | exact h.pick 5 rfl))) (R.fld (k := 2) rfl rfl Tryz.runUnderlying79 rfl rfl Tryz.sizeOf44) ?_
                refine JD.step 11 rfl (by kernel_rfl) ?_
                refine J.st1 5 rfl rfl rfl rfl rfl rfl Tryz.sizeOf44 (by first | rfl | assumption | simp [Value.cells, Value.oneCell']) rfl rfl rfl ?_
                refine J.nil ⟨(fun h => by cases h), ?_⟩
                refine JD.done (by kernel_rfl) ?_
                refine C.region ?_
                refine J.move rfl rfl rfl rfl rfl ?_
                refine J.bin rfl rfl rfl rfl rfl rfl (fun w => ra_add (by omega)) ?_
                refine J.asg rfl rfl rfl rfl rfl ?_
                refine J.nil ?_
                refine ⟨rfl, (i + 1, tacc ++ [a], k5, e5, .slice A97 (i + 1) c97, vs ++ [.slice A95 a.length c95], fun b => fpt b ∨ fp95 b), ⟨by simp [htl], by dsimp only; omega, fun h0 => ⟨(hU.1 h0).1, by dsimp only; rw [hq.2, hni, pTextsL_ok (hU.1 h0).2]⟩, fun h0 => by dsimp only; rw [hq.2, hni, pTextsL_err (hU.2 h0)]; rfl⟩, by dsimp only; omega, (Sub.cons rfl (Sub.cons rfl (Sub.cons rfl (Sub.cons rfl (Sub.cons rfl (Sub.cons rfl (Sub.nil _))))))), fun w h => texts_join2 (u := .slice A95 a.length c95) (row := .slice A97 (i + 1) c97) (vs := vs) (acc := tacc) (t := a) (fp := fpt) (fp1 := fp95) (B := blk b96 _ 22) (i := i + 1) (e := 22) h⟩
            · rw [show (e4 == 0) = false by simpa using he4]
              replace hT1 : e4 = 0 → k4 ≤ (opened xs).1.length ∧ pText ((opened xs).1.drop k3) = pTake (m % 8192) ((opened xs).1.drop k4) := fun h => absurd h he4
              refine J.pass rfl rfl rfl rfl rfl (by intro h; cases h) ?_
              refine J.pass rfl rfl rfl rfl rfl (by intro h; cases h) ?_
              refine J.pick rfl rfl rfl rfl rfl rfl ?_
              refine J.nil ?_
              refine C.cond_f rfl ?_
              refine C.skip ?_
              refine C.regionD (fun w' => St No w [blk b7 #[vi kk, .slice A1 acc.length c1, row2] 79] w') 11 (by kernel_rfl) ?_
              refine JD.take 0 rfl rfl rfl rfl (by kernel_rfl) (fun w h => ((by first | exact h.pick 3 rfl | exact h.pick 4 rfl | exact h.pick 5 rfl))) (R.fld (k := 2) rfl rfl Tryz.runUnderlying79 rfl rfl Tryz.sizeOf44) ?_
              refine JD.take 2 rfl rfl rfl rfl (by kernel_rfl) (fun w h => ((by first | exact h.pick 3 rfl | exact h.pick 4 rfl | exact h.pick 5 rfl))) (R.move rfl rfl) ?_
              refine JD.take 3 rfl rfl rfl rfl (by kernel_rfl) (fun w h => ((by first | exact h.pick 3 rfl | exact h.pick 4 rfl | exact h.pick 5 rfl))) (R.move rfl rfl) ?_
              refine JD.take 1 rfl rfl rfl rfl (by kernel_rfl) (fun w h => ((by first | exact h.pick 3 rfl | exact h.pick 4 rfl | exact h.pick 5 rfl))) (R.ld rfl rfl Tryz.isAgg44 (fun w h => cellO h 0 rfl rfl)) ?_
              refine JD.step 4 rfl (by kernel_rfl) ?_
              refine J.bin rfl rfl rfl rfl rfl rfl (fun w => and_u64 m 8191 (by omega) (by decide)) ?_
              refine J.nil ⟨(fun _ w h => ((by first | exact h.pick 3 rfl | exact h.pick 4 rfl | exact h.pick 5 rfl))), ?_⟩
              refine JD.step 5 rfl (by kernel_rfl) ?_
              refine J.conv rfl rfl rfl rfl rfl Tryz.runUnderlying105 Tryz.runUnderlying3 ((congrArg (fun t : Nat => IntKind.i64.wrap (t : Int)) (and8191 m)).trans (IntWalk.i64_in _ (by omega))) ?_
              refine J.nil ⟨(fun _ w h => ((by first | exact h.pick 3 rfl | exact h.pick 4 rfl | exact h.pick 5 rfl))), ?_⟩
              refine JD.step 6 rfl (by kernel_rfl) ?_
              refine J.callm 4 rfl rfl rfl rfl rfl Tryz.call79 rfl (fun w h => rtake_any w b26 _ (opened xs).1 k4 (m % 8192) _ (fun h0 => (hT1 h0).1) (by omega) hyl (h.get 4 rfl) (h.bx2 4 5 (by decide) rfl rfl))  ?_
              rintro v94 r94 ⟨a, k5, e5, ⟨hal2, hz⟩, rfl, hd1, hd2⟩
              have hU := comb hT1 hT2 hd1 hd2
              refine J.nil ⟨(fun _ w h => ((by first | exact h.pick 3 rfl | exact h.pick 4 rfl | exact h.pick 5 rfl))), ?_⟩
              refine JD.step 7 rfl (by kernel_rfl) ?_
              refine J.callr rfl rfl rfl rfl rfl Tryz.call57 (fun w h => Copied_calls w _ a (BX.ba (hz _ _ (h.bx2 4 5 (by decide) rfl rfl))) (by omega))  ?_
              rintro v95 r95 ⟨A95, c95, fp95, hA95, hc95, rfl, rfl⟩
              refine J.nil ⟨(fun _ w h => ((by first | exact h.pick 3 rfl | exact h.pick 4 rfl | exact h.pick 5 rfl))), ?_⟩
              refine JD.step 8 rfl (by kernel_rfl) ?_
              refine J.blds (vs := [_]) (cells := [_]) rfl rfl rfl rfl rfl Tryz.zeroValue22 Tryz.runUnderlying44 Tryz.sizeOf22 rfl rfl rfl rfl (fun b96 => ?_)
              refine J.nil ⟨(fun _ w h => ((by first | exact h.pick 3 rfl | exact h.pick 4 rfl | exact h.pick 5 rfl))), ?_⟩
              refine JD.step 9 rfl (by kernel_rfl) ?_
              refine J.app 2 rfl rfl rfl rfl rfl rfl Tryz.underlying44 inf22 rfl rfl rfl rfl (news := [.slice A95 a.length c95]) rfl (fun w h hn => srcO h 0 rfl) rfl (by omega) (fun v97 => ?_)
              refine J.fact (fun w h => row_form (h.get 2 rfl)) ?_
              rintro ⟨A97, c97, rfl, -, -⟩
              refine J.nil ⟨(fun _ w h => ((by first | exact h.pick 3 rfl | exact h.pick 4 rfl | exact h.pick 5 rfl))), ?_⟩
              refine JD.take 10 rfl rfl rfl rfl (by kernel_rfl) (fun w h => ((by first | exact h.pick 3 rfl | exact h.pick 4 rfl | exact h.pick 5 rfl))) (R.fld (k := 2) rfl rfl Tryz.runUnderlying79 rfl rfl Tryz.sizeOf44) ?_
              refine JD.step 11 rfl (by kernel_rfl) ?_
              refine J.st1 5 rfl rfl rfl rfl rfl rfl Tryz.sizeOf44 (by first | rfl | assumption | simp [Value.cells, Value.oneCell']) rfl rfl rfl ?_
              refine J.nil ⟨(fun h => by cases h), ?_⟩
              refine JD.done (by kernel_rfl) ?_
              refine C.region ?_
              refine J.move rfl rfl rfl rfl rfl ?_
              refine J.bin rfl rfl rfl rfl rfl rfl (fun w => ra_add (by omega)) ?_
              refine J.asg rfl rfl rfl rfl rfl ?_
              refine J.nil ?_
              refine ⟨rfl, (i + 1, tacc ++ [a], k5, e5, .slice A97 (i + 1) c97, vs ++ [.slice A95 a.length c95], fun b => fpt b ∨ fp95 b), ⟨by simp [htl], by dsimp only; omega, fun h0 => ⟨(hU.1 h0).1, by dsimp only; rw [hq.2, hni, pTextsL_ok (hU.1 h0).2]⟩, fun h0 => by dsimp only; rw [hq.2, hni, pTextsL_err (hU.2 h0)]; rfl⟩, by dsimp only; omega, (Sub.cons rfl (Sub.cons rfl (Sub.cons rfl (Sub.cons rfl (Sub.cons rfl (Sub.cons rfl (Sub.nil _))))))), fun w h => texts_join2 (u := .slice A95 a.length c95) (row := .slice A97 (i + 1) c97) (vs := vs) (acc := tacc) (t := a) (fp := fpt) (fp1 := fp95) (B := blk b96 _ 22) (i := i + 1) (e := 22) h⟩
          · rw [show (e3 == 0) = false by simpa using he0]
            refine C.cond_f rfl ?_
            refine C.exit rfl ?_
            refine C.seq ?_
            refine C.block ?_
            refine C.seq ?_
            refine C.region ?_
            refine J.move rfl rfl rfl rfl rfl ?_
            refine J.nilck rfl rfl rfl rfl rfl ?_
            refine J.fld (k := 2) rfl rfl rfl rfl rfl Tryz.runUnderlying128 rfl rfl Tryz.sizeOf3 ?_
            refine J.ldo 4 rfl rfl rfl rfl rfl Tryz.isAgg3 rfl rfl ?_
            refine J.bin rfl rfl rfl rfl rfl rfl (fun w => rfl) ?_
            refine J.asg rfl rfl rfl rfl rfl ?_
            refine J.nil ?_
            rw [hR2 he0]
            rw [show (e3 != 0) = true by simpa using he0]
            refine C.cond_t rfl ?_
            refine C.seq ?_
            refine C.regionD (fun w' => St No w [rd b26 (.slice A17 (opened xs).1.length c17) k3 e3] w') 7 (by kernel_rfl) ?_
            refine JD.take 0 rfl rfl rfl rfl (by kernel_rfl) (fun w h => ((by first | exact h.pick 4 rfl))) (R.bld (pl := #[(0, 1), (1, 1), (2, 1)]) (cells := #[_, _, _]) rfl rfl Tryz.zeroValue79 Tryz.runUnderlying79 (fun w => by kernel_rfl) rfl) ?_
            refine JD.take 1 rfl rfl rfl rfl (by kernel_rfl) (fun w h => ((by first | exact h.pick 4 rfl))) (R.move rfl rfl) ?_
            refine JD.take 2 rfl rfl rfl rfl (by kernel_rfl) (fun w h => ((by first | exact h.pick 4 rfl))) (R.nilck rfl rfl) ?_
            refine JD.take 3 rfl rfl rfl rfl (by kernel_rfl) (fun w h => ((by first | exact h.pick 4 rfl))) (R.fld (k := 2) rfl rfl Tryz.runUnderlying128 rfl rfl Tryz.sizeOf3) ?_
            refine JD.take 4 rfl rfl rfl rfl (by kernel_rfl) (fun w h => ((by first | exact h.pick 4 rfl))) (R.ld rfl rfl Tryz.isAgg3 (fun w h => cellO h 0 rfl rfl)) ?_
            refine JD.step 5 rfl (by kernel_rfl) ?_
            first | refine J.stwc 6 rfl rfl rfl rfl rfl rfl Tryz.sizeOf79 (by first | rfl | assumption | simp [Value.cells, Value.oneCell']) rfl rfl ?_ | refine J.stw 6 rfl rfl rfl rfl rfl rfl Tryz.sizeOf79 (by first | rfl | assumption | simp [Value.cells, Value.oneCell']) rfl rfl ?_
            refine J.nil ⟨(fun _ w h => ((by first | exact h.pick 4 rfl))), ?_⟩
            refine JD.take 6 rfl rfl rfl rfl (by kernel_rfl) (fun w h => ((by first | exact h.pick 4 rfl))) (R.asg rfl rfl) ?_
            refine JD.done (by kernel_rfl) ?_
            refine C.ret ?_
            exact fin2 rfl (RV.cellw 6 rfl Tryz.isAgg79 rfl Tryz.sizeOf79) (RV.tmp rfl) (fun w' h => h.retL (Rs := []) (List.nil_sublist _) ⟨rfl, rfl⟩)
        · have hge2 : i = n2 := by omega
          rw [dec_f (show ¬ (i : Int) < n2 by omega)]
          refine J.pass rfl rfl rfl rfl rfl (by intro h; cases h) ?_
          refine J.pass rfl rfl rfl rfl rfl (by intro h; cases h) ?_
          refine J.pass rfl rfl rfl rfl rfl (by intro h; cases h) ?_
          refine J.pass rfl rfl rfl rfl rfl (by intro h; cases h) ?_
          refine J.pass rfl rfl rfl rfl rfl (by intro h; cases h) ?_
          refine J.pick rfl rfl rfl rfl rfl rfl ?_
          refine J.nil ?_
          refine C.cond_f rfl ?_
          refine C.exit rfl ?_
          refine C.seq ?_
          refine C.block ?_
          refine C.seq ?_
          refine C.region ?_
          refine J.move rfl rfl rfl rfl rfl ?_
          refine J.nilck rfl rfl rfl rfl rfl ?_
          refine J.fld (k := 2) rfl rfl rfl rfl rfl Tryz.runUnderlying128 rfl rfl Tryz.sizeOf3 ?_
          refine J.ldo 4 rfl rfl rfl rfl rfl Tryz.isAgg3 rfl rfl ?_
          refine J.bin rfl rfl rfl rfl rfl rfl (fun w => rfl) ?_
          refine J.asg rfl rfl rfl rfl rfl ?_
          refine J.nil ?_
          rcases Decidable.em (e3 = 0) with he0 | he0
          · subst he0
            have hq := hR1 rfl
            have hfin : pRec (opened xs).1 = if ((opened xs).1.drop k3).length > 0 then .error 23 else .ok ((kk : Int), acc, tacc) := by rw [hq.2, hge2, Nat.sub_self]; rfl
            have hdl : ((opened xs).1.drop k3).length = (opened xs).1.length - k3 := List.length_drop
            refine C.cond_f rfl ?_
            refine C.seq ?_
            refine C.region ?_
            refine J.move rfl rfl rfl rfl rfl ?_
            refine J.nilck rfl rfl rfl rfl rfl ?_
            refine J.fld (k := 1) rfl rfl rfl rfl rfl Tryz.runUnderlying128 rfl rfl Tryz.sizeOf3 ?_
            refine J.ldo 4 rfl rfl rfl rfl rfl Tryz.isAgg3 rfl rfl ?_
            refine J.move rfl rfl rfl rfl rfl ?_
            refine J.len rfl rfl rfl rfl rfl Tryz.runUnderlying22 ?_
            refine J.bin rfl rfl rfl rfl rfl rfl (fun w => rfl) ?_
            refine J.asg rfl rfl rfl rfl rfl ?_
            refine J.nil ?_
            refine C.cond rfl (fun h6 => ?_) (fun h6 => ?_)
            · have h6 : k3 < (opened xs).1.length := by have := of_decide_eq_true h6; omega
              rw [hfin, if_pos (by omega)]
              refine C.seq ?_
              refine C.region ?_
              refine J.bld (pl := #[(0, 1), (1, 1), (2, 1)]) (cells := #[_, _, _]) rfl rfl rfl rfl rfl Tryz.zeroValue79 Tryz.runUnderlying79 (fun w => by kernel_rfl) rfl ?_
              first | refine J.stwc 6 rfl rfl rfl rfl rfl rfl Tryz.sizeOf79 (by first | rfl | assumption | simp [Value.cells, Value.oneCell']) rfl rfl ?_ | refine J.stw 6 rfl rfl rfl rfl rfl rfl Tryz.sizeOf79 (by first | rfl | assumption | simp [Value.cells, Value.oneCell']) rfl rfl ?_
              refine J.asg rfl rfl rfl rfl rfl ?_
              refine J.nil ?_
              refine C.ret ?_
              exact fin2 rfl (RV.cellw 6 rfl Tryz.isAgg79 rfl Tryz.sizeOf79) (RV.tmp rfl) (fun w' h => h.retL (Rs := []) (List.nil_sublist _) ⟨rfl, rfl⟩)
            · have h6 : ¬ k3 < (opened xs).1.length := by have := of_decide_eq_false h6; omega
              rw [hfin, if_neg (by omega)]
              refine C.fact (fun w h => row_form (h.get 0 rfl)) ?_
              rintro ⟨A2, c2, rfl, -, -⟩
              refine C.skip ?_
              refine C.seq ?_
              refine C.region ?_
              refine J.ldw 3 rfl rfl rfl rfl rfl Tryz.isAgg79 rfl Tryz.sizeOf79 ?_
              first | refine J.stwc 6 rfl rfl rfl rfl rfl rfl Tryz.sizeOf79 (by first | rfl | assumption | simp [Value.cells, Value.oneCell']) rfl rfl ?_ | refine J.stw 6 rfl rfl rfl rfl rfl rfl Tryz.sizeOf79 (by first | rfl | assumption | simp [Value.cells, Value.oneCell']) rfl rfl ?_
              refine J.asg rfl rfl rfl rfl rfl ?_
              refine J.nil ?_
              refine C.ret ?_
              have hge3 : tacc.length = i := htl
              subst hge3
              exact fin2 rfl (RV.cellw 6 rfl Tryz.isAgg79 rfl Tryz.sizeOf79) (RV.tmp rfl) (fun w' h => ((row_ri (h.rbs_of.front 1 rfl) rfl).front 1 rfl).retL (Rs := [_, _]) (((List.nil_sublist _).cons_cons _).cons_cons _) ⟨A1, c1, A2, c2, _, _, rfl, rfl⟩)
          · rw [hR2 he0]
            rw [show (e3 != 0) = true by simpa using he0]
            refine C.cond_t rfl ?_
            refine C.seq ?_
            refine C.regionD (fun w' => St No w [rd b26 (.slice A17 (opened xs).1.length c17) k3 e3] w') 7 (by kernel_rfl) ?_
            refine JD.take 0 rfl rfl rfl rfl (by kernel_rfl) (fun w h => ((by first | exact h.pick 4 rfl))) (R.bld (pl := #[(0, 1), (1, 1), (2, 1)]) (cells := #[_, _, _]) rfl rfl Tryz.zeroValue79 Tryz.runUnderlying79 (fun w => by kernel_rfl) rfl) ?_
            refine JD.take 1 rfl rfl rfl rfl (by kernel_rfl) (fun w h => ((by first | exact h.pick 4 rfl))) (R.move rfl rfl) ?_
            refine JD.take 2 rfl rfl rfl rfl (by kernel_rfl) (fun w h => ((by first | exact h.pick 4 rfl))) (R.nilck rfl rfl) ?_
            refine JD.take 3 rfl rfl rfl rfl (by kernel_rfl) (fun w h => ((by first | exact h.pick 4 rfl))) (R.fld (k := 2) rfl rfl Tryz.runUnderlying128 rfl rfl Tryz.sizeOf3) ?_
            refine JD.take 4 rfl rfl rfl rfl (by kernel_rfl) (fun w h => ((by first | exact h.pick 4 rfl))) (R.ld rfl rfl Tryz.isAgg3 (fun w h => cellO h 0 rfl rfl)) ?_
            refine JD.step 5 rfl (by kernel_rfl) ?_
            first | refine J.stwc 6 rfl rfl rfl rfl rfl rfl Tryz.sizeOf79 (by first | rfl | assumption | simp [Value.cells, Value.oneCell']) rfl rfl ?_ | refine J.stw 6 rfl rfl rfl rfl rfl rfl Tryz.sizeOf79 (by first | rfl | assumption | simp [Value.cells, Value.oneCell']) rfl rfl ?_
            refine J.nil ⟨(fun _ w h => ((by first | exact h.pick 4 rfl))), ?_⟩
            refine JD.take 6 rfl rfl rfl rfl (by kernel_rfl) (fun w h => ((by first | exact h.pick 4 rfl))) (R.asg rfl rfl) ?_
            refine JD.done (by kernel_rfl) ?_
            refine C.ret ?_
            exact fin2 rfl (RV.cellw 6 rfl Tryz.isAgg79 rfl Tryz.sizeOf79) (RV.tmp rfl) (fun w' h => h.retL (Rs := []) (List.nil_sublist _) ⟨rfl, rfl⟩)
    · have hgen : i = n := by omega
      replace hQ1 : e2 = 0 → k2 ≤ (opened xs).1.length ∧ pRec (opened xs).1 = contN kk (.ok (acc, (opened xs).1.drop k2)) := fun h0 => ⟨(hQ1 h0).1, by rw [(hQ1 h0).2, hgen, Nat.sub_self]; rfl⟩
      rw [dec_f (show ¬ (i : Int) < n by omega)]
      refine J.pass rfl rfl rfl rfl rfl (by intro h; cases h) ?_
      refine J.pass rfl rfl rfl rfl rfl (by intro h; cases h) ?_
      refine J.pass rfl rfl rfl rfl rfl (by intro h; cases h) ?_
      refine J.pass rfl rfl rfl rfl rfl (by intro h; cases h) ?_
      refine J.pass rfl rfl rfl rfl rfl (by intro h; cases h) ?_
      refine J.pick rfl rfl rfl rfl rfl rfl ?_
      refine J.nil ?_
      refine C.cond_f rfl ?_
      refine C.exit rfl ?_
      refine C.seq ?_
      refine C.region ?_
      refine J.move rfl rfl rfl rfl rfl ?_
      refine J.fact (fun w h => row_form (h.get 0 rfl)) ?_
      rintro ⟨A1, c1, rfl, -, -⟩
      have hal3 : acc.length = i := hal
      subst hal3
      refine J.callm 2 rfl rfl rfl rfl rfl Tryz.call77 rfl (fun w h => rcount_any w b26 _ (opened xs).1 k2 64 e2 (fun h0 => (hQ1 h0).1) hyl (h.get 2 rfl) (h.bx2 2 3 (by decide) rfl rfl))  ?_
      rintro v61 r61 ⟨n2, k3, e3, ⟨hn2, rfl⟩, rfl, hc1, hc2⟩
      have hR1 : e3 = 0 → k3 ≤ (opened xs).1.length ∧ pRec (opened xs).1 = contT kk acc (pTextsL n2 [] ((opened xs).1.drop k3)) := fun h0 => by
        have he2 : e2 = 0 := by
          rcases Decidable.em (e2 = 0) with h | h
          · exact h
          · exact absurd ((hc1 h).symm.trans h0) h
        rcases hc2 he2 with ⟨_, h2, h3⟩ | ⟨h2, _⟩
        · exact ⟨h2, by rw [(hQ1 he2).2]; show contT _ _ (pTexts _) = _; rw [pTexts_ok h3]⟩
        · exact absurd h0 h2
      have hR2 : e3 ≠ 0 → pRec (opened xs).1 = .error e3 := fun h0 => by
        rcases Decidable.em (e2 = 0) with h | h
        · rcases hc2 h with ⟨h1, _, _⟩ | ⟨_, h3⟩
          · exact absurd h1 h0
          · rw [(hQ1 h).2]; show contT _ _ (pTexts _) = _; rw [pTexts_err h3]; rfl
        · rw [hc1 h]; exact hQ2 h
      refine J.asg rfl rfl rfl rfl rfl ?_
      refine J.nil ?_
      refine C.seq ?_
      refine C.seq ?_
      refine C.region ?_
      refine J.asg rfl rfl rfl rfl rfl ?_
      refine J.nil ?_
      refine C.block ?_
      refine C.loop (σ := Nat × List (List UInt8) × Nat × Int × Value × List Value × (Nat → Prop)) (fun s => s.2.1.length = s.1 ∧ s.1 ≤ n2 ∧ (s.2.2.2.1 = 0 → s.2.2.1 ≤ (opened xs).1.length ∧ pRec (opened xs).1 = contT kk acc (pTextsL (n2 - s.1) s.2.1 ((opened xs).1.drop s.2.2.1))) ∧ (s.2.2.2.1 ≠ 0 → pRec (opened xs).1 = .error s.2.2.2.1)) (fun s => [(2, .pointer (some ⟨b2, 0, none⟩)), (4, .slice A17 (opened xs).1.length c17), (6, .pointer (some ⟨b26, 0, none⟩)), (7, .pointer (some ⟨b7, 0, none⟩)), (12, vi (n2 : Int)), (13, vi (s.1 : Int))]) (fun s => [rowR 22 1 s.2.2.2.2.1 s.1 s.2.2.2.2.2.1, mR s.2.2.2.2.2.2 s.2.2.2.2.2.1 s.2.1, rowR 3 1 (.slice A1 acc.length c1) acc.length (acc.map vi), blk b7 #[vi kk, .slice A1 acc.length c1, s.2.2.2.2.1] 79, rd b26 (.slice A17 (opened xs).1.length c17) s.2.2.1 s.2.2.2.1, rbR fp17 (.slice A17 (opened xs).1.length c17) (opened xs).1, blk b2 #[vi 0, .slice none 0 0, .slice none 0 0] 79]) (fun s => n2 - s.1) (0, [], k3, e3, .slice none 0 0, [], fun _ => False) ⟨rfl, Nat.zero_le _, hR1, hR2⟩ ?_ ?_ ?_
      · exact (Sub.cons rfl (Sub.cons rfl (Sub.cons rfl (Sub.cons rfl (Sub.cons rfl (Sub.cons rfl (Sub.nil _)))))))
      · exact fun w h => h.mnil.nilRow _ _
      clear hR1 hR2 hc1 hc2
      rintro ⟨i, tacc, k3, e3, row2, vs, fpt⟩ ⟨htl, hin2, hR1, hR2⟩
      dsimp only at htl hin2 hR1 hR2 ⊢
      refine C.seq ?_
      refine C.seq ?_
      refine C.region ?_
      refine J.move rfl rfl rfl rfl rfl ?_
      refine J.move rfl rfl rfl rfl rfl ?_
      refine J.bin rfl rfl rfl rfl rfl rfl (fun w => rfl) ?_
      refine J.move rfl rfl rfl rfl rfl ?_
      rcases Decidable.em (i < n2) with hlt | hge
      · have hni : n2 - i = (n2 - (i + 1)) + 1 := by omega
        rw [dec_t (show (i : Int) < n2 by omega)]
        refine J.want rfl rfl rfl rfl ?_
        refine J.move rfl rfl rfl rfl rfl ?_
        refine J.want rfl rfl rfl rfl ?_
        refine J.nilck rfl rfl rfl rfl rfl ?_
        refine J.want rfl rfl rfl rfl ?_
        refine J.fld (k := 2) rfl rfl rfl rfl rfl Tryz.runUnderlying128 rfl rfl Tryz.sizeOf3 ?_
        refine J.want rfl rfl rfl rfl ?_
        refine J.ldo 4 rfl rfl rfl rfl rfl Tryz.isAgg3 rfl rfl ?_
        refine J.want rfl rfl rfl rfl ?_
        refine J.bin rfl rfl rfl rfl rfl rfl (fun w => rfl) ?_
        refine J.pick rfl rfl rfl rfl rfl rfl ?_
        refine J.nil ?_
        rcases Decidable.em (e3 = 0) with he0 | he0
        · subst he0
          have hq := hR1 rfl
          refine C.cond_t rfl ?_
          refine C.skip ?_
          refine C.seq ?_
          refine C.block ?_
          refine C.seq ?_
          refine C.region ?_
          refine J.move rfl rfl rfl rfl rfl ?_
          refine J.callm 4 rfl rfl rfl rfl rfl Tryz.call78 rfl (fun w h => rgroups_rd_calls w b26 _ (opened xs).1 k3 hq.1 hyl (h.get 4 rfl) (h.bx2 4 5 (by decide) rfl rfl))  ?_
          rintro v75 r75 ⟨k4, e4, rfl, hp⟩
          obtain ⟨m, rfl, hm, hT1, hT2⟩ : ∃ m : Nat, v75 = .int .u64 (m : Int) ∧ m < 2 ^ 64 ∧ (e4 = 0 → k4 ≤ (opened xs).1.length ∧ pText ((opened xs).1.drop k3) = if m > 4096 then .error 5 else pTake m ((opened xs).1.drop k4)) ∧ (e4 ≠ 0 → pText ((opened xs).1.drop k3) = .error e4) := by
            rcases excp (pG ((opened xs).1.drop k3) 0 0) with ⟨e, he⟩ | ⟨m, r, he⟩
            · rw [he] at hp
              obtain ⟨rfl, rfl, h2⟩ := hp
              exact ⟨0, rfl, by omega, fun h => absurd h h2, fun _ => by unfold pText; rw [he]⟩
            · rw [he] at hp
              obtain ⟨rfl, rfl, h2, rfl⟩ := hp
              exact ⟨m, rfl, pG_lt _ 0 0 m _ (by omega) rfl (by omega) he, fun _ => ⟨h2, by unfold pText; rw [he]⟩, fun h => absurd rfl h⟩
          refine J.asg rfl rfl rfl rfl rfl ?_
          refine J.nil ?_
          refine C.seq ?_
          refine C.seq ?_
          refine C.region ?_
          refine J.move rfl rfl rfl rfl rfl ?_
          refine J.nilck rfl rfl rfl rfl rfl ?_
          refine J.fld (k := 2) rfl rfl rfl rfl rfl Tryz.runUnderlying128 rfl rfl Tryz.sizeOf3 ?_
          refine J.ldo 4 rfl rfl rfl rfl rfl Tryz.isAgg3 rfl rfl ?_
          refine J.bin rfl rfl rfl rfl rfl rfl (fun w => rfl) ?_
          refine J.move rfl rfl rfl rfl rfl ?_
          rcases Decidable.em (e4 = 0) with he4 | he4
          · subst he4
            refine J.want rfl rfl rfl rfl ?_
            refine J.move rfl rfl rfl rfl rfl ?_
            refine J.want rfl rfl rfl rfl ?_
            refine J.bin rfl rfl rfl rfl rfl rfl (fun w => rfl) ?_
            refine J.pick rfl rfl rfl rfl rfl rfl ?_
            refine J.nil ?_
            refine C.cond rfl (fun h5 => ?_) (fun h5 => ?_)
            · have h5 : m > 4096 := by have := of_decide_eq_true h5; omega
              replace hT2 : (5 : Int) ≠ 0 → pText ((opened xs).1.drop k3) = .error 5 := fun _ => by rw [(hT1 rfl).2, if_pos h5]
              replace hT1 : (5 : Int) = 0 → k4 ≤ (opened xs).1.length ∧ pText ((opened xs).1.drop k3) = pTake (m % 8192) ((opened xs).1.drop k4) := fun h => by omega
              refine C.region ?_
              refine J.move rfl rfl rfl rfl rfl ?_
              refine J.nilck rfl rfl rfl rfl rfl ?_
              refine J.fld (k := 2) rfl rfl rfl rfl rfl Tryz.runUnderlying128 rfl rfl Tryz.sizeOf3 ?_
              refine J.st1 4 rfl rfl rfl rfl rfl rfl Tryz.sizeOf3 (by first | rfl | assumption | simp [Value.cells, Value.oneCell']) rfl rfl rfl ?_
              refine J.nil ?_
              refine C.regionD (fun w' => St No w [blk b7 #[vi kk, .slice A1 acc.length c1, row2] 79] w') 11 (by kernel_rfl) ?_
              refine JD.take 0 rfl rfl rfl rfl (by kernel_rfl) (fun w h => ((by first | exact h.pick 3 rfl | exact h.pick 4 rfl | exact h.pick 5 rfl))) (R.fld (k := 2) rfl rfl Tryz.runUnderlying79 rfl rfl Tryz.sizeOf44) ?_
              refine JD.take 2 rfl rfl rfl rfl (by kernel_rfl) (fun w h => ((by first | exact h.pick 3 rfl | exact h.pick 4 rfl | exact h.pick 5 rfl))) (R.move rfl rfl) ?_
              refine JD.take 3 rfl rfl rfl rfl (by kernel_rfl) (fun w h => ((by first | exact h.pick 3 rfl | exact h.pick 4 rfl | exact h.pick 5 rfl))) (R.move rfl rfl) ?_
              refine JD.take 1 rfl rfl rfl rfl (by kernel_rfl) (fun w h => ((by first | exact h.pick 3 rfl | exact h.pick 4 rfl | exact h.pick 5 rfl))) (R.ld rfl rfl Tryz.isAgg44 (fun w h => cellO h 0 rfl rfl)) ?_
              refine JD.step 4 rfl (by kernel_rfl) ?_
              refine J.bin rfl rfl rfl rfl rfl rfl (fun w => and_u64 m 8191 (by omega) (by decide)) ?_
              refine J.nil ⟨(fun _ w h => ((by first | exact h.pick 3 rfl | exact h.pick 4 rfl | exact h.pick 5 rfl))), ?_⟩
              refine JD.step 5 rfl (by kernel_rfl) ?_
              refine J.conv rfl rfl rfl rfl rfl Tryz.runUnderlying105 Tryz.runUnderlying3 ((congrArg (fun t : Nat => IntKind.i64.wrap (t : Int)) (and8191 m)).trans (IntWalk.i64_in _ (by omega))) ?_
              refine J.nil ⟨(fun _ w h => ((by first | exact h.pick 3 rfl | exact h.pick 4 rfl | exact h.pick 5 rfl))), ?_⟩
              refine JD.step 6 rfl (by kernel_rfl) ?_
              refine J.callm 4 rfl rfl rfl rfl rfl Tryz.call79 rfl (fun w h => rtake_any w b26 _ (opened xs).1 k4 (m % 8192) _ (fun h0 => (hT1 h0).1) (by omega) hyl (h.get 4 rfl) (h.bx2 4 5 (by decide) rfl rfl))  ?_
              rintro v94 r94 ⟨a, k5, e5, ⟨hal2, hz⟩, rfl, hd1, hd2⟩
              have hU := comb hT1 hT2 hd1 hd2
              refine J.nil ⟨(fun _ w h => ((by first | exact h.pick 3 rfl | exact h.pick 4 rfl | exact h.pick 5 rfl))), ?_⟩
              refine JD.step 7 rfl (by kernel_rfl) ?_
              refine J.callr rfl rfl rfl rfl rfl Tryz.call57 (fun w h => Copied_calls w _ a (BX.ba (hz _ _ (h.bx2 4 5 (by decide) rfl rfl))) (by omega))  ?_
              rintro v95 r95 ⟨A95, c95, fp95, hA95, hc95, rfl, rfl⟩
              refine J.nil ⟨(fun _ w h => ((by first | exact h.pick 3 rfl | exact h.pick 4 rfl | exact h.pick 5 rfl))), ?_⟩
              refine JD.step 8 rfl (by kernel_rfl) ?_
              refine J.blds (vs := [_]) (cells := [_]) rfl rfl rfl rfl rfl Tryz.zeroValue22 Tryz.runUnderlying44 Tryz.sizeOf22 rfl rfl rfl rfl (fun b96 => ?_)
              refine J.nil ⟨(fun _ w h => ((by first | exact h.pick 3 rfl | exact h.pick 4 rfl | exact h.pick 5 rfl))), ?_⟩
              refine JD.step 9 rfl (by kernel_rfl) ?_
              refine J.app 2 rfl rfl rfl rfl rfl rfl Tryz.underlying44 inf22 rfl rfl rfl rfl (news := [.slice A95 a.length c95]) rfl (fun w h hn => srcO h 0 rfl) rfl (by omega) (fun v97 => ?_)
              refine J.fact (fun w h => row_form (h.get 2 rfl)) ?_
              rintro ⟨A97, c97, rfl, -, -⟩
              refine J.nil ⟨(fun _ w h => ((by first | exact h.pick 3 rfl | exact h.pick 4 rfl | exact h.pick 5 rfl))), ?_⟩
              refine JD.take 10 rfl rfl rfl rfl (by kernel_rfl) (fun w h => ((by first | exact h.pick 3 rfl | exact h.pick 4 rfl | exact h.pick 5 rfl))) (R.fld (k := 2) rfl rfl Tryz.runUnderlying79 rfl rfl Tryz.sizeOf44) ?_
              refine JD.step 11 rfl (by kernel_rfl) ?_
              refine J.st1 5 rfl rfl rfl rfl rfl rfl Tryz.sizeOf44 (by first | rfl | assumption | simp [Value.cells, Value.oneCell']) rfl rfl rfl ?_
              refine J.nil ⟨(fun h => by cases h), ?_⟩
              refine JD.done (by kernel_rfl) ?_
              refine C.region ?_
              refine J.move rfl rfl rfl rfl rfl ?_
              refine J.bin rfl rfl rfl rfl rfl rfl (fun w => ra_add (by omega)) ?_
              refine J.asg rfl rfl rfl rfl rfl ?_
              refine J.nil ?_
              refine ⟨rfl, (i + 1, tacc ++ [a], k5, e5, .slice A97 (i + 1) c97, vs ++ [.slice A95 a.length c95], fun b => fpt b ∨ fp95 b), ⟨by simp [htl], by dsimp only; omega, fun h0 => ⟨(hU.1 h0).1, by dsimp only; rw [hq.2, hni, pTextsL_ok (hU.1 h0).2]⟩, fun h0 => by dsimp only; rw [hq.2, hni, pTextsL_err (hU.2 h0)]; rfl⟩, by dsimp only; omega, (Sub.cons rfl (Sub.cons rfl (Sub.cons rfl (Sub.cons rfl (Sub.cons rfl (Sub.cons rfl (Sub.nil _))))))), fun w h => texts_join2 (u := .slice A95 a.length c95) (row := .slice A97 (i + 1) c97) (vs := vs) (acc := tacc) (t := a) (fp := fpt) (fp1 := fp95) (B := blk b96 _ 22) (i := i + 1) (e := 22) h⟩
            · have h5 : ¬ m > 4096 := by have := of_decide_eq_false h5; omega
              replace hT1 : (0 : Int) = 0 → k4 ≤ (opened xs).1.length ∧ pText ((opened xs).1.drop k3) = pTake (m % 8192) ((opened xs).1.drop k4) := fun h => ⟨(hT1 rfl).1, by rw [(hT1 rfl).2, if_neg h5, Nat.mod_eq_of_lt (by omega)]⟩
              refine C.skip ?_
              refine C.regionD (fun w' => St No w [blk b7 #[vi kk, .slice A1 acc.length c1, row2] 79] w') 11 (by kernel_rfl) ?_
              refine JD.take 0 rfl rfl rfl rfl (by kernel_rfl) (fun w h => ((by first | exact h.pick 3 rfl | exact h.pick 4 rfl | exact h.pick 5 rfl))) (R.fld (k := 2) rfl rfl Tryz.runUnderlying79 rfl rfl Tryz.sizeOf44) ?_
              refine JD.take 2 rfl rfl rfl rfl (by kernel_rfl) (fun w h => ((by first | exact h.pick 3 rfl | exact h.pick 4 rfl | exact h.pick 5 rfl))) (R.move rfl rfl) ?_
              refine JD.take 3 rfl rfl rfl rfl (by kernel_rfl) (fun w h => ((by first | exact h.pick 3 rfl | exact h.pick 4 rfl | exact h.pick 5 rfl))) (R.move rfl rfl) ?_
              refine JD.take 1 rfl rfl rfl rfl (by kernel_rfl) (fun w h => ((by first | exact h.pick 3 rfl | exact h.pick 4 rfl | exact h.pick 5 rfl))) (R.ld rfl rfl Tryz.isAgg44 (fun w h => cellO h 0 rfl rfl)) ?_
              refine JD.step 4 rfl (by kernel_rfl) ?_
              refine J.bin rfl rfl rfl rfl rfl rfl (fun w => and_u64 m 8191 (by omega) (by decide)) ?_
              refine J.nil ⟨(fun _ w h => ((by first | exact h.pick 3 rfl | exact h.pick 4 rfl | exact h.pick 5 rfl))), ?_⟩
              refine JD.step 5 rfl (by kernel_rfl) ?_
              refine J.conv rfl rfl rfl rfl rfl Tryz.runUnderlying105 Tryz.runUnderlying3 ((congrArg (fun t : Nat => IntKind.i64.wrap (t : Int)) (and8191 m)).trans (IntWalk.i64_in _ (by omega))) ?_
              refine J.nil ⟨(fun _ w h => ((by first | exact h.pick 3 rfl | exact h.pick 4 rfl | exact h.pick 5 rfl))), ?_⟩
              refine JD.step 6 rfl (by kernel_rfl) ?_
              refine J.callm 4 rfl rfl rfl rfl rfl Tryz.call79 rfl (fun w h => rtake_any w b26 _ (opened xs).1 k4 (m % 8192) _ (fun h0 => (hT1 h0).1) (by omega) hyl (h.get 4 rfl) (h.bx2 4 5 (by decide) rfl rfl))  ?_
              rintro v94 r94 ⟨a, k5, e5, ⟨hal2, hz⟩, rfl, hd1, hd2⟩
              have hU := comb hT1 hT2 hd1 hd2
              refine J.nil ⟨(fun _ w h => ((by first | exact h.pick 3 rfl | exact h.pick 4 rfl | exact h.pick 5 rfl))), ?_⟩
              refine JD.step 7 rfl (by kernel_rfl) ?_
              refine J.callr rfl rfl rfl rfl rfl Tryz.call57 (fun w h => Copied_calls w _ a (BX.ba (hz _ _ (h.bx2 4 5 (by decide) rfl rfl))) (by omega))  ?_
              rintro v95 r95 ⟨A95, c95, fp95, hA95, hc95, rfl, rfl⟩
              refine J.nil ⟨(fun _ w h => ((by first | exact h.pick 3 rfl | exact h.pick 4 rfl | exact h.pick 5 rfl))), ?_⟩
              refine JD.step 8 rfl (by kernel_rfl) ?_
              refine J.blds (vs := [_]) (cells := [_]) rfl rfl rfl rfl rfl Tryz.zeroValue22 Tryz.runUnderlying44 Tryz.sizeOf22 rfl rfl rfl rfl (fun b96 => ?_)
              refine J.nil ⟨(fun _ w h => ((by first | exact h.pick 3 rfl | exact h.pick 4 rfl | exact h.pick 5 rfl))), ?_⟩
              refine JD.step 9 rfl (by kernel_rfl) ?_
              refine J.app 2 rfl rfl rfl rfl rfl rfl Tryz.underlying44 inf22 rfl rfl rfl rfl (news := [.slice A95 a.length c95]) rfl (fun w h hn => srcO h 0 rfl) rfl (by omega) (fun v97 => ?_)
              refine J.fact (fun w h => row_form (h.get 2 rfl)) ?_
              rintro ⟨A97, c97, rfl, -, -⟩
              refine J.nil ⟨(fun _ w h => ((by first | exact h.pick 3 rfl | exact h.pick 4 rfl | exact h.pick 5 rfl))), ?_⟩
              refine JD.take 10 rfl rfl rfl rfl (by kernel_rfl) (fun w h => ((by first | exact h.pick 3 rfl | exact h.pick 4 rfl | exact h.pick 5 rfl))) (R.fld (k := 2) rfl rfl Tryz.runUnderlying79 rfl rfl Tryz.sizeOf44) ?_
              refine JD.step 11 rfl (by kernel_rfl) ?_
              refine J.st1 5 rfl rfl rfl rfl rfl rfl Tryz.sizeOf44 (by first | rfl | assumption | simp [Value.cells, Value.oneCell']) rfl rfl rfl ?_
              refine J.nil ⟨(fun h => by cases h), ?_⟩
              refine JD.done (by kernel_rfl) ?_
              refine C.region ?_
              refine J.move rfl rfl rfl rfl rfl ?_
              refine J.bin rfl rfl rfl rfl rfl rfl (fun w => ra_add (by omega)) ?_
              refine J.asg rfl rfl rfl rfl rfl ?_
              refine J.nil ?_
              refine ⟨rfl, (i + 1, tacc ++ [a], k5, e5, .slice A97 (i + 1) c97, vs ++ [.slice A95 a.length c95], fun b => fpt b ∨ fp95 b), ⟨by simp [htl], by dsimp only; omega, fun h0 => ⟨(hU.1 h0).1, by dsimp only; rw [hq.2, hni, pTextsL_ok (hU.1 h0).2]⟩, fun h0 => by dsimp only; rw [hq.2, hni, pTextsL_err (hU.2 h0)]; rfl⟩, by dsimp only; omega, (Sub.cons rfl (Sub.cons rfl (Sub.cons rfl (Sub.cons rfl (Sub.cons rfl (Sub.cons rfl (Sub.nil _))))))), fun w h => texts_join2 (u := .slice A95 a.length c95) (row := .slice A97 (i + 1) c97) (vs := vs) (acc := tacc) (t := a) (fp := fpt) (fp1 := fp95) (B := blk b96 _ 22) (i := i + 1) (e := 22) h⟩
          · rw [show (e4 == 0) = false by simpa using he4]
            replace hT1 : e4 = 0 → k4 ≤ (opened xs).1.length ∧ pText ((opened xs).1.drop k3) = pTake (m % 8192) ((opened xs).1.drop k4) := fun h => absurd h he4
            refine J.pass rfl rfl rfl rfl rfl (by intro h; cases h) ?_
            refine J.pass rfl rfl rfl rfl rfl (by intro h; cases h) ?_
            refine J.pick rfl rfl rfl rfl rfl rfl ?_
            refine J.nil ?_
            refine C.cond_f rfl ?_
            refine C.skip ?_
            refine C.regionD (fun w' => St No w [blk b7 #[vi kk, .slice A1 acc.length c1, row2] 79] w') 11 (by kernel_rfl) ?_
            refine JD.take 0 rfl rfl rfl rfl (by kernel_rfl) (fun w h => ((by first | exact h.pick 3 rfl | exact h.pick 4 rfl | exact h.pick 5 rfl))) (R.fld (k := 2) rfl rfl Tryz.runUnderlying79 rfl rfl Tryz.sizeOf44) ?_
            refine JD.take 2 rfl rfl rfl rfl (by kernel_rfl) (fun w h => ((by first | exact h.pick 3 rfl | exact h.pick 4 rfl | exact h.pick 5 rfl))) (R.move rfl rfl) ?_
            refine JD.take 3 rfl rfl rfl rfl (by kernel_rfl) (fun w h => ((by first | exact h.pick 3 rfl | exact h.pick 4 rfl | exact h.pick 5 rfl))) (R.move rfl rfl) ?_
            refine JD.take 1 rfl rfl rfl rfl (by kernel_rfl) (fun w h => ((by first | exact h.pick 3 rfl | exact h.pick 4 rfl | exact h.pick 5 rfl))) (R.ld rfl rfl Tryz.isAgg44 (fun w h => cellO h 0 rfl rfl)) ?_
            refine JD.step 4 rfl (by kernel_rfl) ?_
            refine J.bin rfl rfl rfl rfl rfl rfl (fun w => and_u64 m 8191 (by omega) (by decide)) ?_
            refine J.nil ⟨(fun _ w h => ((by first | exact h.pick 3 rfl | exact h.pick 4 rfl | exact h.pick 5 rfl))), ?_⟩
            refine JD.step 5 rfl (by kernel_rfl) ?_
            refine J.conv rfl rfl rfl rfl rfl Tryz.runUnderlying105 Tryz.runUnderlying3 ((congrArg (fun t : Nat => IntKind.i64.wrap (t : Int)) (and8191 m)).trans (IntWalk.i64_in _ (by omega))) ?_
            refine J.nil ⟨(fun _ w h => ((by first | exact h.pick 3 rfl | exact h.pick 4 rfl | exact h.pick 5 rfl))), ?_⟩
            refine JD.step 6 rfl (by kernel_rfl) ?_
            refine J.callm 4 rfl rfl rfl rfl rfl Tryz.call79 rfl (fun w h => rtake_any w b26 _ (opened xs).1 k4 (m % 8192) _ (fun h0 => (hT1 h0).1) (by omega) hyl (h.get 4 rfl) (h.bx2 4 5 (by decide) rfl rfl))  ?_
            rintro v94 r94 ⟨a, k5, e5, ⟨hal2, hz⟩, rfl, hd1, hd2⟩
            have hU := comb hT1 hT2 hd1 hd2
            refine J.nil ⟨(fun _ w h => ((by first | exact h.pick 3 rfl | exact h.pick 4 rfl | exact h.pick 5 rfl))), ?_⟩
            refine JD.step 7 rfl (by kernel_rfl) ?_
            refine J.callr rfl rfl rfl rfl rfl Tryz.call57 (fun w h => Copied_calls w _ a (BX.ba (hz _ _ (h.bx2 4 5 (by decide) rfl rfl))) (by omega))  ?_
            rintro v95 r95 ⟨A95, c95, fp95, hA95, hc95, rfl, rfl⟩
            refine J.nil ⟨(fun _ w h => ((by first | exact h.pick 3 rfl | exact h.pick 4 rfl | exact h.pick 5 rfl))), ?_⟩
            refine JD.step 8 rfl (by kernel_rfl) ?_
            refine J.blds (vs := [_]) (cells := [_]) rfl rfl rfl rfl rfl Tryz.zeroValue22 Tryz.runUnderlying44 Tryz.sizeOf22 rfl rfl rfl rfl (fun b96 => ?_)
            refine J.nil ⟨(fun _ w h => ((by first | exact h.pick 3 rfl | exact h.pick 4 rfl | exact h.pick 5 rfl))), ?_⟩
            refine JD.step 9 rfl (by kernel_rfl) ?_
            refine J.app 2 rfl rfl rfl rfl rfl rfl Tryz.underlying44 inf22 rfl rfl rfl rfl (news := [.slice A95 a.length c95]) rfl (fun w h hn => srcO h 0 rfl) rfl (by omega) (fun v97 => ?_)
            refine J.fact (fun w h => row_form (h.get 2 rfl)) ?_
            rintro ⟨A97, c97, rfl, -, -⟩
            refine J.nil ⟨(fun _ w h => ((by first | exact h.pick 3 rfl | exact h.pick 4 rfl | exact h.pick 5 rfl))), ?_⟩
            refine JD.take 10 rfl rfl rfl rfl (by kernel_rfl) (fun w h => ((by first | exact h.pick 3 rfl | exact h.pick 4 rfl | exact h.pick 5 rfl))) (R.fld (k := 2) rfl rfl Tryz.runUnderlying79 rfl rfl Tryz.sizeOf44) ?_
            refine JD.step 11 rfl (by kernel_rfl) ?_
            refine J.st1 5 rfl rfl rfl rfl rfl rfl Tryz.sizeOf44 (by first | rfl | assumption | simp [Value.cells, Value.oneCell']) rfl rfl rfl ?_
            refine J.nil ⟨(fun h => by cases h), ?_⟩
            refine JD.done (by kernel_rfl) ?_
            refine C.region ?_
            refine J.move rfl rfl rfl rfl rfl ?_
            refine J.bin rfl rfl rfl rfl rfl rfl (fun w => ra_add (by omega)) ?_
            refine J.asg rfl rfl rfl rfl rfl ?_
            refine J.nil ?_
            refine ⟨rfl, (i + 1, tacc ++ [a], k5, e5, .slice A97 (i + 1) c97, vs ++ [.slice A95 a.length c95], fun b => fpt b ∨ fp95 b), ⟨by simp [htl], by dsimp only; omega, fun h0 => ⟨(hU.1 h0).1, by dsimp only; rw [hq.2, hni, pTextsL_ok (hU.1 h0).2]⟩, fun h0 => by dsimp only; rw [hq.2, hni, pTextsL_err (hU.2 h0)]; rfl⟩, by dsimp only; omega, (Sub.cons rfl (Sub.cons rfl (Sub.cons rfl (Sub.cons rfl (Sub.cons rfl (Sub.cons rfl (Sub.nil _))))))), fun w h => texts_join2 (u := .slice A95 a.length c95) (row := .slice A97 (i + 1) c97) (vs := vs) (acc := tacc) (t := a) (fp := fpt) (fp1 := fp95) (B := blk b96 _ 22) (i := i + 1) (e := 22) h⟩
        · rw [show (e3 == 0) = false by simpa using he0]
          refine C.cond_f rfl ?_
          refine C.exit rfl ?_
          refine C.seq ?_
          refine C.block ?_
          refine C.seq ?_
          refine C.region ?_
          refine J.move rfl rfl rfl rfl rfl ?_
          refine J.nilck rfl rfl rfl rfl rfl ?_
          refine J.fld (k := 2) rfl rfl rfl rfl rfl Tryz.runUnderlying128 rfl rfl Tryz.sizeOf3 ?_
          refine J.ldo 4 rfl rfl rfl rfl rfl Tryz.isAgg3 rfl rfl ?_
          refine J.bin rfl rfl rfl rfl rfl rfl (fun w => rfl) ?_
          refine J.asg rfl rfl rfl rfl rfl ?_
          refine J.nil ?_
          rw [hR2 he0]
          rw [show (e3 != 0) = true by simpa using he0]
          refine C.cond_t rfl ?_
          refine C.seq ?_
          refine C.regionD (fun w' => St No w [rd b26 (.slice A17 (opened xs).1.length c17) k3 e3] w') 7 (by kernel_rfl) ?_
          refine JD.take 0 rfl rfl rfl rfl (by kernel_rfl) (fun w h => ((by first | exact h.pick 4 rfl))) (R.bld (pl := #[(0, 1), (1, 1), (2, 1)]) (cells := #[_, _, _]) rfl rfl Tryz.zeroValue79 Tryz.runUnderlying79 (fun w => by kernel_rfl) rfl) ?_
          refine JD.take 1 rfl rfl rfl rfl (by kernel_rfl) (fun w h => ((by first | exact h.pick 4 rfl))) (R.move rfl rfl) ?_
          refine JD.take 2 rfl rfl rfl rfl (by kernel_rfl) (fun w h => ((by first | exact h.pick 4 rfl))) (R.nilck rfl rfl) ?_
          refine JD.take 3 rfl rfl rfl rfl (by kernel_rfl) (fun w h => ((by first | exact h.pick 4 rfl))) (R.fld (k := 2) rfl rfl Tryz.runUnderlying128 rfl rfl Tryz.sizeOf3) ?_
          refine JD.take 4 rfl rfl rfl rfl (by kernel_rfl) (fun w h => ((by first | exact h.pick 4 rfl))) (R.ld rfl rfl Tryz.isAgg3 (fun w h => cellO h 0 rfl rfl)) ?_
          refine JD.step 5 rfl (by kernel_rfl) ?_
          first | refine J.stwc 6 rfl rfl rfl rfl rfl rfl Tryz.sizeOf79 (by first | rfl | assumption | simp [Value.cells, Value.oneCell']) rfl rfl ?_ | refine J.stw 6 rfl rfl rfl rfl rfl rfl Tryz.sizeOf79 (by first | rfl | assumption | simp [Value.cells, Value.oneCell']) rfl rfl ?_
          refine J.nil ⟨(fun _ w h => ((by first | exact h.pick 4 rfl))), ?_⟩
          refine JD.take 6 rfl rfl rfl rfl (by kernel_rfl) (fun w h => ((by first | exact h.pick 4 rfl))) (R.asg rfl rfl) ?_
          refine JD.done (by kernel_rfl) ?_
          refine C.ret ?_
          exact fin2 rfl (RV.cellw 6 rfl Tryz.isAgg79 rfl Tryz.sizeOf79) (RV.tmp rfl) (fun w' h => h.retL (Rs := []) (List.nil_sublist _) ⟨rfl, rfl⟩)
      · have hge2 : i = n2 := by omega
        rw [dec_f (show ¬ (i : Int) < n2 by omega)]
        refine J.pass rfl rfl rfl rfl rfl (by intro h; cases h) ?_
        refine J.pass rfl rfl rfl rfl rfl (by intro h; cases h) ?_
        refine J.pass rfl rfl rfl rfl rfl (by intro h; cases h) ?_
        refine J.pass rfl rfl rfl rfl rfl (by intro h; cases h) ?_
        refine J.pass rfl rfl rfl rfl rfl (by intro h; cases h) ?_
        refine J.pick rfl rfl rfl rfl rfl rfl ?_
        refine J.nil ?_
        refine C.cond_f rfl ?_
        refine C.exit rfl ?_
        refine C.seq ?_
        refine C.block ?_
        refine C.seq ?_
        refine C.region ?_
        refine J.move rfl rfl rfl rfl rfl ?_
        refine J.nilck rfl rfl rfl rfl rfl ?_
        refine J.fld (k := 2) rfl rfl rfl rfl rfl Tryz.runUnderlying128 rfl rfl Tryz.sizeOf3 ?_
        refine J.ldo 4 rfl rfl rfl rfl rfl Tryz.isAgg3 rfl rfl ?_
        refine J.bin rfl rfl rfl rfl rfl rfl (fun w => rfl) ?_
        refine J.asg rfl rfl rfl rfl rfl ?_
        refine J.nil ?_
        rcases Decidable.em (e3 = 0) with he0 | he0
        · subst he0
          have hq := hR1 rfl
          have hfin : pRec (opened xs).1 = if ((opened xs).1.drop k3).length > 0 then .error 23 else .ok ((kk : Int), acc, tacc) := by rw [hq.2, hge2, Nat.sub_self]; rfl
          have hdl : ((opened xs).1.drop k3).length = (opened xs).1.length - k3 := List.length_drop
          refine C.cond_f rfl ?_
          refine C.seq ?_
          refine C.region ?_
          refine J.move rfl rfl rfl rfl rfl ?_
          refine J.nilck rfl rfl rfl rfl rfl ?_
          refine J.fld (k := 1) rfl rfl rfl rfl rfl Tryz.runUnderlying128 rfl rfl Tryz.sizeOf3 ?_
          refine J.ldo 4 rfl rfl rfl rfl rfl Tryz.isAgg3 rfl rfl ?_
          refine J.move rfl rfl rfl rfl rfl ?_
          refine J.len rfl rfl rfl rfl rfl Tryz.runUnderlying22 ?_
          refine J.bin rfl rfl rfl rfl rfl rfl (fun w => rfl) ?_
          refine J.asg rfl rfl rfl rfl rfl ?_
          refine J.nil ?_
          refine C.cond rfl (fun h6 => ?_) (fun h6 => ?_)
          · have h6 : k3 < (opened xs).1.length := by have := of_decide_eq_true h6; omega
            rw [hfin, if_pos (by omega)]
            refine C.seq ?_
            refine C.region ?_
            refine J.bld (pl := #[(0, 1), (1, 1), (2, 1)]) (cells := #[_, _, _]) rfl rfl rfl rfl rfl Tryz.zeroValue79 Tryz.runUnderlying79 (fun w => by kernel_rfl) rfl ?_
            first | refine J.stwc 6 rfl rfl rfl rfl rfl rfl Tryz.sizeOf79 (by first | rfl | assumption | simp [Value.cells, Value.oneCell']) rfl rfl ?_ | refine J.stw 6 rfl rfl rfl rfl rfl rfl Tryz.sizeOf79 (by first | rfl | assumption | simp [Value.cells, Value.oneCell']) rfl rfl ?_
            refine J.asg rfl rfl rfl rfl rfl ?_
            refine J.nil ?_
            refine C.ret ?_
            exact fin2 rfl (RV.cellw 6 rfl Tryz.isAgg79 rfl Tryz.sizeOf79) (RV.tmp rfl) (fun w' h => h.retL (Rs := []) (List.nil_sublist _) ⟨rfl, rfl⟩)
          · have h6 : ¬ k3 < (opened xs).1.length := by have := of_decide_eq_false h6; omega
            rw [hfin, if_neg (by omega)]
            refine C.fact (fun w h => row_form (h.get 0 rfl)) ?_
            rintro ⟨A2, c2, rfl, -, -⟩
            refine C.skip ?_
            refine C.seq ?_
            refine C.region ?_
            refine J.ldw 3 rfl rfl rfl rfl rfl Tryz.isAgg79 rfl Tryz.sizeOf79 ?_
            first | refine J.stwc 6 rfl rfl rfl rfl rfl rfl Tryz.sizeOf79 (by first | rfl | assumption | simp [Value.cells, Value.oneCell']) rfl rfl ?_ | refine J.stw 6 rfl rfl rfl rfl rfl rfl Tryz.sizeOf79 (by first | rfl | assumption | simp [Value.cells, Value.oneCell']) rfl rfl ?_
            refine J.asg rfl rfl rfl rfl rfl ?_
            refine J.nil ?_
            refine C.ret ?_
            have hge3 : tacc.length = i := htl
            subst hge3
            exact fin2 rfl (RV.cellw 6 rfl Tryz.isAgg79 rfl Tryz.sizeOf79) (RV.tmp rfl) (fun w' h => ((row_ri (h.rbs_of.front 1 rfl) rfl).front 1 rfl).retL (Rs := [_, _]) (((List.nil_sublist _).cons_cons _).cons_cons _) ⟨A1, c1, A2, c2, _, _, rfl, rfl⟩)
        · rw [hR2 he0]
          rw [show (e3 != 0) = true by simpa using he0]
          refine C.cond_t rfl ?_
          refine C.seq ?_
          refine C.regionD (fun w' => St No w [rd b26 (.slice A17 (opened xs).1.length c17) k3 e3] w') 7 (by kernel_rfl) ?_
          refine JD.take 0 rfl rfl rfl rfl (by kernel_rfl) (fun w h => ((by first | exact h.pick 4 rfl))) (R.bld (pl := #[(0, 1), (1, 1), (2, 1)]) (cells := #[_, _, _]) rfl rfl Tryz.zeroValue79 Tryz.runUnderlying79 (fun w => by kernel_rfl) rfl) ?_
          refine JD.take 1 rfl rfl rfl rfl (by kernel_rfl) (fun w h => ((by first | exact h.pick 4 rfl))) (R.move rfl rfl) ?_
          refine JD.take 2 rfl rfl rfl rfl (by kernel_rfl) (fun w h => ((by first | exact h.pick 4 rfl))) (R.nilck rfl rfl) ?_
          refine JD.take 3 rfl rfl rfl rfl (by kernel_rfl) (fun w h => ((by first | exact h.pick 4 rfl))) (R.fld (k := 2) rfl rfl Tryz.runUnderlying128 rfl rfl Tryz.sizeOf3) ?_
          refine JD.take 4 rfl rfl rfl rfl (by kernel_rfl) (fun w h => ((by first | exact h.pick 4 rfl))) (R.ld rfl rfl Tryz.isAgg3 (fun w h => cellO h 0 rfl rfl)) ?_
          refine JD.step 5 rfl (by kernel_rfl) ?_
          first | refine J.stwc 6 rfl rfl rfl rfl rfl rfl Tryz.sizeOf79 (by first | rfl | assumption | simp [Value.cells, Value.oneCell']) rfl rfl ?_ | refine J.stw 6 rfl rfl rfl rfl rfl rfl Tryz.sizeOf79 (by first | rfl | assumption | simp [Value.cells, Value.oneCell']) rfl rfl ?_
          refine J.nil ⟨(fun _ w h => ((by first | exact h.pick 4 rfl))), ?_⟩
          refine JD.take 6 rfl rfl rfl rfl (by kernel_rfl) (fun w h => ((by first | exact h.pick 4 rfl))) (R.asg rfl rfl) ?_
          refine JD.done (by kernel_rfl) ?_
          refine C.ret ?_
          exact fin2 rfl (RV.cellw 6 rfl Tryz.isAgg79 rfl Tryz.sizeOf79) (RV.tmp rfl) (fun w' h => h.retL (Rs := []) (List.nil_sublist _) ⟨rfl, rfl⟩)
end Go.Proofs.YtiminmnmeknioaaGreatDoor

/- bytes.Trim of octets 0. -/
set_option linter.unusedVariables false
namespace Go.Proofs.YtiminmnmeknioaaGreatDoor
open Go Go.RowKit

def all0 (xs : List UInt8) : Prop := ∀ x ∈ xs, x = 0
instance (xs : List UInt8) : Decidable (all0 xs) := by unfold all0; infer_instance
theorem trimR_calls (w : World) (v : Value) (xs : List UInt8) (hx : BA w v xs) : Calls Tryz.prog 69 #[v, .int .u8 0] w (RetV w (fun z => ∃ ys, SubV v xs z ys ∧ (all0 xs ↔ all0 ys))) := by
  refine calls_of_C Tryz.func69 rfl Tryz.ntmps69 (Nat.le_of_ble_eq_true rfl) ?_
  refine C.less (L' := [(0, _), (1, _)]) ?_ (Sub.cons rfl (Sub.cons rfl (Sub.nil _))) (fun w h => h)
  refine C.seq ?_
  refine C.region ?_
  refine J.asg rfl rfl rfl rfl rfl ?_
  refine J.nil ?_
  refine C.seq ?_
  refine C.block ?_
  refine C.loop (σ := List UInt8 × Value) (fun s => SubV v xs s.2 s.1 ∧ (all0 xs ↔ all0 s.1)) (fun s => [(0, s.2), (1, .int .u8 0)]) (fun s => []) (fun s => s.1.length) (xs, v) ⟨SubV.refl _ _, Iff.rfl⟩ ?_ ?_ ?_
  · exact (Sub.cons rfl (Sub.cons rfl (Sub.nil _)))
  · exact fun w h => h
  rintro ⟨ys, z⟩ ⟨hs, hi⟩
  dsimp only at hs hi ⊢
  obtain ⟨A, c, rfl, h1, h2, h3⟩ := (hs _ _ hx).form
  refine C.seq ?_
  refine C.seq ?_
  refine C.region ?_
  refine J.move rfl rfl rfl rfl rfl ?_
  refine J.len rfl rfl rfl rfl rfl Tryz.runUnderlying22 ?_
  refine J.bin rfl rfl rfl rfl rfl rfl (fun w => rfl) ?_
  refine J.move rfl rfl rfl rfl rfl ?_
  rcases Nat.eq_zero_or_pos ys.length with h0 | h0
  · rw [dec_f (show ¬ (ys.length : Int) > 0 by omega)]
    refine J.pass rfl rfl rfl rfl rfl (by intro h; cases h) ?_
    refine J.pass rfl rfl rfl rfl rfl (by intro h; cases h) ?_
    refine J.pass rfl rfl rfl rfl rfl (by intro h; cases h) ?_
    refine J.pass rfl rfl rfl rfl rfl (by intro h; cases h) ?_
    refine J.pass rfl rfl rfl rfl rfl (by intro h; cases h) ?_
    refine J.pass rfl rfl rfl rfl rfl (by intro h; cases h) ?_
    refine J.pass rfl rfl rfl rfl rfl (by intro h; cases h) ?_
    refine J.pass rfl rfl rfl rfl rfl (by intro h; cases h) ?_
    refine J.pick rfl rfl rfl rfl rfl rfl ?_
    refine J.nil ?_
    refine C.cond_f rfl ?_
    refine C.exit rfl ?_
    refine C.seq ?_
    refine C.region ?_
    refine J.move rfl rfl rfl rfl rfl ?_
    refine J.asg rfl rfl rfl rfl rfl ?_
    refine J.nil ?_
    refine C.ret ?_
    exact fin1 rfl (RV.tmp rfl) (fun w' h => h.retV ⟨ys, hs, hi⟩)
  · obtain ⟨b, o, rfl, hb, hc⟩ := h3 h0
    rw [dec_t (show (ys.length : Int) > 0 by omega)]
    have hK : ((ys.length : Int) - 1).toNat = ys.length - 1 := by omega
    have hlast := hc (ys.length - 1) ys[ys.length - 1] (by simp)
    refine J.want rfl rfl rfl rfl ?_
    refine J.move rfl rfl rfl rfl rfl ?_
    refine J.want rfl rfl rfl rfl ?_
    refine J.move rfl rfl rfl rfl rfl ?_
    refine J.want rfl rfl rfl rfl ?_
    refine J.len rfl rfl rfl rfl rfl Tryz.runUnderlying22 ?_
    refine J.want rfl rfl rfl rfl ?_
    refine J.bin rfl rfl rfl rfl rfl rfl (fun w => ra_sub (by omega)) ?_
    refine J.want rfl rfl rfl rfl ?_
    first | refine J.idx1 rfl rfl rfl rfl rfl rfl Tryz.runUnderlying22 Tryz.sizeOf5 (by omega) ?_ | refine J.idx rfl rfl rfl rfl rfl rfl Tryz.runUnderlying22 Tryz.sizeOf5 (by omega) ?_
    refine J.want rfl rfl rfl rfl ?_
    refine J.ld rfl rfl rfl rfl rfl Tryz.isAgg5 (fun w h => by rw [hK, Nat.mul_one]; exact cellOld h hlast) ?_
    refine J.want rfl rfl rfl rfl ?_
    refine J.move rfl rfl rfl rfl rfl ?_
    refine J.want rfl rfl rfl rfl ?_
    refine J.bin rfl rfl rfl rfl rfl rfl (fun w => rfl) ?_
    refine J.pick rfl rfl rfl rfl rfl rfl ?_
    refine J.nil ?_
    refine C.cond rfl (fun h5 => ?_) (fun h5 => ?_)
    · have h5 : ys[ys.length - 1] = 0 := by
        apply UInt8.toNat_inj.1
        simp at h5
        exact h5
      refine C.skip ?_
      refine C.block ?_
      refine C.region ?_
      refine J.move rfl rfl rfl rfl rfl ?_
      refine J.move rfl rfl rfl rfl rfl ?_
      refine J.len rfl rfl rfl rfl rfl Tryz.runUnderlying22 ?_
      refine J.bin rfl rfl rfl rfl rfl rfl (fun w => ra_sub (by omega)) ?_
      refine J.slc (l1 := none) (h1 := some _) (m1 := none) rfl rfl rfl rfl rfl rfl rfl rfl (slc_h Tryz.underlying22 Tryz.sizeOf5 (by omega) (by omega)) ?_
      refine J.asg rfl rfl rfl rfl rfl ?_
      refine J.nil ?_
      refine ⟨rfl, (ys.take (ys.length - 1), .slice (some ⟨b, o, none⟩) ((ys.length : Int) - 1).toNat c), ⟨?_, ?_⟩, by dsimp only; rw [List.length_take]; omega, (Sub.cons rfl (Sub.cons rfl (Sub.nil _))), fun w h => h⟩
      · dsimp only
        rw [hK]
        exact hs.trans (SubV.take _ (by omega))
      · rw [hi]
        constructor
        · exact fun h x hx => h x (List.mem_of_mem_take hx)
        · intro h x hx
          have e : ys = ys.take (ys.length - 1) ++ [ys[ys.length - 1]] := by
            rw [← List.take_succ_eq_append_getElem (by omega), List.take_of_length_le (by omega)]
          rw [e] at hx
          rcases List.mem_append.1 hx with hx | hx
          · exact h x hx
          · rw [List.mem_singleton] at hx; rw [hx]; exact h5
    · refine C.exit rfl ?_
      refine C.seq ?_
      refine C.region ?_
      refine J.move rfl rfl rfl rfl rfl ?_
      refine J.asg rfl rfl rfl rfl rfl ?_
      refine J.nil ?_
      refine C.ret ?_
      exact fin1 rfl (RV.tmp rfl) (fun w' h => h.retV ⟨ys, hs, hi⟩)
theorem trimL_calls (w : World) (v : Value) (xs : List UInt8) (hx : BA w v xs) : Calls Tryz.prog 68 #[v, .int .u8 0] w (RetV w (fun z => ∃ ys, SubV v xs z ys ∧ (all0 xs ↔ ys = []))) := by
  refine calls_of_C Tryz.func68 rfl Tryz.ntmps68 (Nat.le_of_ble_eq_true rfl) ?_
  refine C.less (L' := [(0, _), (1, _)]) ?_ (Sub.cons rfl (Sub.cons rfl (Sub.nil _))) (fun w h => h)
  refine C.seq ?_
  refine C.region ?_
  refine J.asg rfl rfl rfl rfl rfl ?_
  refine J.nil ?_
  refine C.seq ?_
  refine C.block ?_
  refine C.loop (σ := List UInt8 × Value) (fun s => SubV v xs s.2 s.1 ∧ (all0 xs ↔ all0 s.1)) (fun s => [(0, s.2), (1, .int .u8 0)]) (fun s => []) (fun s => s.1.length) (xs, v) ⟨SubV.refl _ _, Iff.rfl⟩ ?_ ?_ ?_
  · exact (Sub.cons rfl (Sub.cons rfl (Sub.nil _)))
  · exact fun w h => h
  rintro ⟨ys, z⟩ ⟨hs, hi⟩
  dsimp only at hs hi ⊢
  obtain ⟨A, c, rfl, h1, h2, h3⟩ := (hs _ _ hx).form
  refine C.seq ?_
  refine C.seq ?_
  refine C.region ?_
  refine J.move rfl rfl rfl rfl rfl ?_
  refine J.len rfl rfl rfl rfl rfl Tryz.runUnderlying22 ?_
  refine J.bin rfl rfl rfl rfl rfl rfl (fun w => rfl) ?_
  refine J.move rfl rfl rfl rfl rfl ?_
  rcases ys with _ | ⟨y, ys⟩
  · refine J.pass rfl rfl rfl rfl rfl (by intro h; cases h) ?_
    refine J.pass rfl rfl rfl rfl rfl (by intro h; cases h) ?_
    refine J.pass rfl rfl rfl rfl rfl (by intro h; cases h) ?_
    refine J.pass rfl rfl rfl rfl rfl (by intro h; cases h) ?_
    refine J.pass rfl rfl rfl rfl rfl (by intro h; cases h) ?_
    refine J.pick rfl rfl rfl rfl rfl rfl ?_
    refine J.nil ?_
    refine C.cond_f rfl ?_
    refine C.exit rfl ?_
    refine C.seq ?_
    refine C.seq ?_
    refine C.region ?_
    refine J.move rfl rfl rfl rfl rfl ?_
    refine J.len rfl rfl rfl rfl rfl Tryz.runUnderlying22 ?_
    refine J.bin rfl rfl rfl rfl rfl rfl (fun w => rfl) ?_
    refine J.nil ?_
    refine C.cond_t rfl ?_
    refine C.seq ?_
    refine C.region ?_
    refine J.asg rfl rfl rfl rfl rfl ?_
    refine J.nil ?_
    refine C.ret ?_
    exact fin1 rfl (RV.tmp rfl) (fun w' h => h.retV ⟨[], SubV.nil, hi.trans ⟨fun _ => rfl, fun _ => fun x hx => by cases hx⟩⟩)
  · obtain ⟨b, o, rfl, hb, hc⟩ := h3 (by simp)
    have hyl : (y :: ys).length = ys.length + 1 := rfl
    rw [dec_t (show ((y :: ys).length : Int) > 0 by omega)]
    refine J.want rfl rfl rfl rfl ?_
    refine J.move rfl rfl rfl rfl rfl ?_
    refine J.want rfl rfl rfl rfl ?_
    first | refine J.idx1 rfl rfl rfl rfl rfl rfl Tryz.runUnderlying22 Tryz.sizeOf5 (by omega) ?_ | refine J.idx rfl rfl rfl rfl rfl rfl Tryz.runUnderlying22 Tryz.sizeOf5 (by omega) ?_
    refine J.want rfl rfl rfl rfl ?_
    refine J.ld rfl rfl rfl rfl rfl Tryz.isAgg5 (fun w h => cellOld h (hc 0 y rfl)) ?_
    refine J.want rfl rfl rfl rfl ?_
    refine J.move rfl rfl rfl rfl rfl ?_
    refine J.want rfl rfl rfl rfl ?_
    refine J.bin rfl rfl rfl rfl rfl rfl (fun w => rfl) ?_
    refine J.pick rfl rfl rfl rfl rfl rfl ?_
    refine J.nil ?_
    refine C.cond rfl (fun h5 => ?_) (fun h5 => ?_)
    · have h5 : y = 0 := by
        apply UInt8.toNat_inj.1
        simp at h5
        exact h5
      refine C.skip ?_
      refine C.block ?_
      refine C.region ?_
      refine J.move rfl rfl rfl rfl rfl ?_
      refine J.slc (l1 := some _) (h1 := none) (m1 := none) rfl rfl rfl rfl rfl rfl rfl rfl (slc_l Tryz.underlying22 Tryz.sizeOf5 (by omega) (by omega)) ?_
      refine J.asg rfl rfl rfl rfl rfl ?_
      refine J.nil ?_
      refine ⟨rfl, (ys, _), ⟨?_, ?_⟩, by dsimp only; simp, (Sub.cons rfl (Sub.cons rfl (Sub.nil _))), fun w h => h⟩
      · exact hs.trans (SubV.drop 1 (by simp))
      · rw [hi]
        constructor
        · exact fun h x hx => h x (List.mem_cons_of_mem _ hx)
        · intro h x hx
          rcases List.mem_cons.1 hx with hx | hx
          · rw [hx]; exact h5
          · exact h x hx
    · refine C.exit rfl ?_
      refine C.seq ?_
      refine C.seq ?_
      refine C.region ?_
      refine J.move rfl rfl rfl rfl rfl ?_
      refine J.len rfl rfl rfl rfl rfl Tryz.runUnderlying22 ?_
      refine J.bin rfl rfl rfl rfl rfl rfl (fun w => rfl) ?_
      refine J.nil ?_
      refine C.cond_f (by rw [show (((y :: ys).length : Int) == 0) = false by rw [hyl]; simp; omega]; rfl) ?_
      refine C.skip ?_
      refine C.seq ?_
      refine C.region ?_
      refine J.move rfl rfl rfl rfl rfl ?_
      refine J.asg rfl rfl rfl rfl rfl ?_
      refine J.nil ?_
      refine C.ret ?_
      exact fin1 rfl (RV.tmp rfl) (fun w' h => h.retV ⟨y :: ys, hs, hi.trans ⟨fun h => absurd (h y (by simp)) (fun e => by rw [e] at h5; simp at h5), fun h => by cases h⟩⟩)
theorem Trim_calls (w : World) (v : Value) (xs : List UInt8) (hx : BA w v xs) : Calls Tryz.prog 39 #[v, .string ⟨#[0]⟩] w (RetV w (fun z => ∃ ys, SubV v xs z ys ∧ (all0 xs ↔ ys = []))) := by
  obtain ⟨A, c, rfl, h1, h2, h3⟩ := hx.form
  refine calls_of_C Tryz.func39 rfl Tryz.ntmps39 (Nat.le_of_ble_eq_true rfl) ?_
  refine C.less (L' := [(0, _), (1, _)]) ?_ (Sub.cons rfl (Sub.cons rfl (Sub.nil _))) (fun w h => h)
  refine C.seq ?_
  refine C.region ?_
  refine J.asg rfl rfl rfl rfl rfl ?_
  refine J.nil ?_
  refine C.seq ?_
  refine C.seq ?_
  refine C.region ?_
  refine J.move rfl rfl rfl rfl rfl ?_
  refine J.len rfl rfl rfl rfl rfl Tryz.runUnderlying22 ?_
  refine J.bin rfl rfl rfl rfl rfl rfl (fun w => rfl) ?_
  refine J.nil ?_
  refine C.cond rfl (fun h => ?_) (fun h => ?_)
  · have h : xs = [] := List.eq_nil_of_length_eq_zero (by simp at h; simpa using h)
    subst h
    refine C.seq ?_
    refine C.region ?_
    refine J.asg rfl rfl rfl rfl rfl ?_
    refine J.nil ?_
    refine C.ret ?_
    exact fin1 rfl (RV.tmp rfl) (fun w' h => h.retV ⟨[], SubV.nil, ⟨fun _ => rfl, fun _ => fun x hx => by cases hx⟩⟩)
  · refine C.skip ?_
    refine C.seq ?_
    refine C.seq ?_
    refine C.region ?_
    refine J.move rfl rfl rfl rfl rfl ?_
    refine J.binAny rfl rfl rfl rfl rfl rfl (v := .bool false) (fun w => by kernel_rfl) ?_
    refine J.nil ?_
    refine C.cond_f rfl ?_
    refine C.skip ?_
    refine C.seq ?_
    refine C.seq ?_
    refine C.region ?_
    refine J.move rfl rfl rfl rfl rfl ?_
    refine J.lens rfl rfl rfl rfl rfl Tryz.runUnderlying9 ?_
    refine J.bin rfl rfl rfl rfl rfl rfl (fun w => rfl) ?_
    refine J.move rfl rfl rfl rfl rfl ?_
    refine J.want rfl rfl rfl rfl ?_
    refine J.move rfl rfl rfl rfl rfl ?_
    refine J.want rfl rfl rfl rfl ?_
    refine J.idxv rfl rfl rfl rfl rfl rfl (v := .int .u8 0) (fun w => by kernel_rfl) ?_
    refine J.want rfl rfl rfl rfl ?_
    refine J.bin rfl rfl rfl rfl rfl rfl (fun w => rfl) ?_
    refine J.pick rfl rfl rfl rfl rfl rfl ?_
    refine J.nil ?_
    refine C.cond_t rfl ?_
    refine C.seq ?_
    refine C.regionD0 8 (by kernel_rfl) ?_
    refine JD.take 0 rfl rfl rfl rfl (by kernel_rfl) (fun w h => h) (R.move rfl rfl) ?_
    refine JD.take 1 rfl rfl rfl rfl (by kernel_rfl) (fun w h => h) (R.move rfl rfl) ?_
    refine JD.take 2 rfl rfl rfl rfl (by kernel_rfl) (fun w h => h) (R.idxv rfl rfl rfl (v := .int .u8 0) (fun w => by kernel_rfl)) ?_
    refine JD.take 4 rfl rfl rfl rfl (by kernel_rfl) (fun w h => h) (R.move rfl rfl) ?_
    refine JD.take 5 rfl rfl rfl rfl (by kernel_rfl) (fun w h => h) (R.idxv rfl rfl rfl (v := .int .u8 0) (fun w => by kernel_rfl)) ?_
    refine JD.step 3 rfl (by kernel_rfl) ?_
    refine J.callv rfl rfl rfl rfl rfl Tryz.call69 (fun w h => trimR_calls w _ xs (h.ba hx))  ?_
    rintro v24 ⟨ys, hs, hi⟩
    refine J.nil ⟨(fun _ w h => h), ?_⟩
    refine JD.step 6 rfl (by kernel_rfl) ?_
    refine J.callv rfl rfl rfl rfl rfl Tryz.call68 (fun w h => trimL_calls w _ ys (hs _ _ (h.ba hx)))  ?_
    rintro v27 ⟨zs, hs2, hi2⟩
    refine J.nil ⟨(fun _ w h => h), ?_⟩
    refine JD.take 7 rfl rfl rfl rfl (by kernel_rfl) (fun w h => h) (R.asg rfl rfl) ?_
    refine JD.done (by kernel_rfl) ?_
    refine C.ret ?_
    exact fin1 rfl (RV.tmp rfl) (fun w' h => h.retV ⟨zs, hs.trans hs2, hi.trans hi2⟩)
end Go.Proofs.YtiminmnmeknioaaGreatDoor

/- Points: checks. -/
set_option linter.unusedVariables false
namespace Go.Proofs.YtiminmnmeknioaaGreatDoor
open Go Go.RowKit

/-- A point. -/
structure Pt where
  ep : Int
  sq : Int
  vw : Int
  cm : Int
  dt : List UInt8
def Pt.nums (p : Pt) : List Int := [p.ep, p.sq, p.vw, p.cm]
def badN (n : Int) : Bool := decide (n < 0) || decide (n > 1099511627776)
def ptErr (p : Pt) : Int := if p.nums.any badN then 4 else if p.dt.length > 400 then 5 else 0
def ptZero : Pt := ⟨0, 0, 0, 0, []⟩
def ptCells (p : Pt) (dv : Value) : Array Value := #[vi p.ep, vi p.sq, vi p.vw, vi p.cm, dv]
def InR (n : Int) : Prop := -9223372036854775808 ≤ n ∧ n ≤ 9223372036854775807
theorem badN_t {n : Int} (h : n < 0 ∨ n > 1099511627776) : badN n = true := by unfold badN; simp; omega
theorem badN_f {n : Int} (h1 : ¬ n < 0) (h2 : ¬ n > 1099511627776) : badN n = false := by unfold badN; simp; omega
theorem cells4 (p : Pt) : ∀ i (h : i < p.nums.length), (#[vi p.ep, vi p.sq, vi p.vw, vi p.cm] : Array Value)[i]? = some (vi p.nums[i])
  | 0, _ => rfl
  | 1, _ => rfl
  | 2, _ => rfl
  | 3, _ => rfl
  | n + 4, h => False.elim (by have : p.nums.length = 4 := rfl; omega)
theorem nums_pt_calls (w : World) (p : Pt) (dv : Value) : Calls Tryz.prog 34 #[.agg #[vi p.ep, vi p.sq, vi p.vw, vi p.cm, dv]] w (Ret w (fun v r => ∃ b, v = .slice (some ⟨b, 0, none⟩) 4 4 ∧ r = blk b #[vi p.ep, vi p.sq, vi p.vw, vi p.cm] 3)) := by
  refine calls_of_C Tryz.func34 rfl Tryz.ntmps34 (Nat.le_of_ble_eq_true rfl) ?_
  refine C.less (L' := [(0, _)]) ?_ (Sub.cons rfl (Sub.nil _)) (fun w h => h)
  refine C.seq ?_
  refine C.region ?_
  first | refine J.boxc rfl rfl rfl rfl rfl rfl (fun b1 => ?_) | refine J.box rfl rfl rfl rfl rfl (fun b1 => ?_)
  refine J.asg rfl rfl rfl rfl rfl ?_
  refine J.nil ?_
  refine C.seq ?_
  refine C.region ?_
  refine J.fld (k := 0) rfl rfl rfl rfl rfl Tryz.runUnderlying25 rfl rfl Tryz.sizeOf3 ?_
  refine J.ldo 0 rfl rfl rfl rfl rfl Tryz.isAgg3 rfl rfl ?_
  refine J.fld (k := 1) rfl rfl rfl rfl rfl Tryz.runUnderlying25 rfl rfl Tryz.sizeOf3 ?_
  refine J.ldo 0 rfl rfl rfl rfl rfl Tryz.isAgg3 rfl rfl ?_
  refine J.fld (k := 2) rfl rfl rfl rfl rfl Tryz.runUnderlying25 rfl rfl Tryz.sizeOf3 ?_
  refine J.ldo 0 rfl rfl rfl rfl rfl Tryz.isAgg3 rfl rfl ?_
  refine J.fld (k := 3) rfl rfl rfl rfl rfl Tryz.runUnderlying25 rfl rfl Tryz.sizeOf3 ?_
  refine J.ldo 0 rfl rfl rfl rfl rfl Tryz.isAgg3 rfl rfl ?_
  refine J.blds (vs := [_, _, _, _]) (cells := [_, _, _, _]) rfl rfl rfl rfl rfl Tryz.zeroValue3 Tryz.runUnderlying73 Tryz.sizeOf3 rfl rfl rfl rfl (fun b11 => ?_)
  refine J.asg rfl rfl rfl rfl rfl ?_
  refine J.nil ?_
  refine C.ret ?_
  exact fin1 rfl (RV.tmp rfl) (fun w' h => h.ret 0 rfl ⟨_, rfl, rfl⟩)
theorem ptErr4 {p : Pt} (i : Nat) (h : i < p.nums.length) (hb : badN p.nums[i] = true) : ptErr p = 4 := by
  unfold ptErr; rw [if_pos (List.any_eq_true.2 ⟨_, List.getElem_mem h, hb⟩)]

theorem Check_pt_calls (w : World) (p : Pt) (A : Option Addr) (c : Nat) (hl : p.dt.length ≤ 9223372036854775807) : Calls Tryz.prog 17 #[.agg #[vi p.ep, vi p.sq, vi p.vw, vi p.cm, .slice A p.dt.length c]] w (Ret0 w (vi (ptErr p))) := by
  have hl4 : p.nums.length = 4 := rfl
  refine calls_of_C Tryz.func17 rfl Tryz.ntmps17 (Nat.le_of_ble_eq_true rfl) ?_
  refine C.less (L' := [(0, _)]) ?_ (Sub.cons rfl (Sub.nil _)) (fun w h => h)
  refine C.seq ?_
  refine C.region ?_
  first | refine J.boxc rfl rfl rfl rfl rfl rfl (fun b1 => ?_) | refine J.box rfl rfl rfl rfl rfl (fun b1 => ?_)
  refine J.asg rfl rfl rfl rfl rfl ?_
  refine J.nil ?_
  refine C.seq ?_
  refine C.seq ?_
  refine C.region ?_
  refine J.ldw 0 rfl rfl rfl rfl rfl Tryz.isAgg25 rfl Tryz.sizeOf25 ?_
  refine J.callr rfl rfl rfl rfl rfl Tryz.call34 (fun w h => nums_pt_calls w p _)  ?_
  rintro v6 r6 ⟨b6, rfl, rfl⟩
  refine J.len rfl rfl rfl rfl rfl Tryz.runUnderlying73 ?_
  refine J.move rfl rfl rfl rfl rfl ?_
  refine J.nil ?_
  refine C.block ?_
  refine C.loop (fun i : Nat => i ≤ 4 ∧ (p.nums.take i).any badN = false) (fun i => [(1, .pointer (some ⟨b1, 0, none⟩)), (6, .slice (some ⟨b6, 0, none⟩) 4 4), (7, vi 4), (8, vi (i : Int))]) (fun i => [blk b6 #[vi p.ep, vi p.sq, vi p.vw, vi p.cm] 3, blk b1 #[vi p.ep, vi p.sq, vi p.vw, vi p.cm, .slice A p.dt.length c] 25]) (fun i => 4 - i) 0 ⟨by omega, rfl⟩ ?_ ?_ ?_
  · exact (Sub.cons rfl (Sub.cons rfl (Sub.cons rfl (Sub.cons rfl (Sub.nil _)))))
  · exact fun w h => h
  rintro i ⟨hi, hpre⟩
  refine C.seq ?_
  refine C.region ?_
  refine J.bin rfl rfl rfl rfl rfl rfl (fun w => rfl) ?_
  refine J.nil ?_
  refine C.seq ?_
  refine C.cond rfl (fun h => ?_) (fun h => ?_)
  · have hlt : i < p.nums.length := by have := of_decide_eq_true h; omega
    refine C.skip ?_
    refine C.seq ?_
    refine C.block ?_
    refine C.seq ?_
    refine C.region ?_
    first | refine J.idx1 rfl rfl rfl rfl rfl rfl Tryz.runUnderlying73 Tryz.sizeOf3 (by omega) ?_ | refine J.idx rfl rfl rfl rfl rfl rfl Tryz.runUnderlying73 Tryz.sizeOf3 (by omega) ?_
    refine J.ld rfl rfl rfl rfl rfl Tryz.isAgg3 (fun w h => cellO h 0 rfl (show (#[vi p.ep, vi p.sq, vi p.vw, vi p.cm] : Array Value)[0 + i]? = some (vi p.nums[i]) by rw [Nat.zero_add]; exact cells4 p i hlt)) ?_
    refine J.asg rfl rfl rfl rfl rfl ?_
    refine J.nil ?_
    refine C.seq ?_
    refine C.region ?_
    refine J.move rfl rfl rfl rfl rfl ?_
    refine J.bin rfl rfl rfl rfl rfl rfl (fun w => rfl) ?_
    refine J.move rfl rfl rfl rfl rfl ?_
    rcases Decidable.em (p.nums[i] < 0) with h1 | h1
    · rw [ptErr4 i hlt (badN_t (.inl h1)), dec_t h1]
      refine J.pass rfl rfl rfl rfl rfl (by intro h; cases h) ?_
      refine J.pass rfl rfl rfl rfl rfl (by intro h; cases h) ?_
      refine J.pick rfl rfl rfl rfl rfl rfl ?_
      refine J.nil ?_
      refine C.cond_t rfl ?_
      refine C.seq ?_
      refine C.region ?_
      refine J.asg rfl rfl rfl rfl rfl ?_
      refine J.nil ?_
      refine C.ret ?_
      exact fin1 rfl (RV.tmp rfl) (fun w' h => h.ret0)
    · rw [dec_f h1]
      refine J.want rfl rfl rfl rfl ?_
      refine J.move rfl rfl rfl rfl rfl ?_
      refine J.want rfl rfl rfl rfl ?_
      refine J.bin rfl rfl rfl rfl rfl rfl (fun w => rfl) ?_
      refine J.pick rfl rfl rfl rfl rfl rfl ?_
      refine J.nil ?_
      refine C.cond rfl (fun h2 => ?_) (fun h2 => ?_)
      · rw [ptErr4 i hlt (badN_t (.inr (of_decide_eq_true h2)))]
        refine C.seq ?_
        refine C.region ?_
        refine J.asg rfl rfl rfl rfl rfl ?_
        refine J.nil ?_
        refine C.ret ?_
        exact fin1 rfl (RV.tmp rfl) (fun w' h => h.ret0)
      · have h2 := of_decide_eq_false h2
        refine C.skip ?_
        refine C.region ?_
        refine J.bin rfl rfl rfl rfl rfl rfl (fun w => ra_add (by omega)) ?_
        refine J.move rfl rfl rfl rfl rfl ?_
        refine J.nil ?_
        exact ⟨rfl, i + 1, ⟨by have : p.nums.length = 4 := rfl; omega, any_take_snoc i hlt hpre (badN_f h1 h2)⟩, by have : p.nums.length = 4 := rfl; omega, (Sub.cons rfl (Sub.cons rfl (Sub.cons rfl (Sub.cons rfl (Sub.nil _))))), fun w h => h⟩
  · have h := of_decide_eq_false h
    have hge : i = 4 := by omega
    subst hge
    have hpre : p.nums.any badN = false := hpre
    have e0 : ptErr p = if p.dt.length > 400 then 5 else 0 := by unfold ptErr; rw [if_neg (by rw [hpre]; simp)]
    refine C.exit rfl ?_
    refine C.seq ?_
    refine C.seq ?_
    refine C.region ?_
    refine J.fld (k := 4) rfl rfl rfl rfl rfl Tryz.runUnderlying25 rfl rfl Tryz.sizeOf22 ?_
    refine J.ldo 1 rfl rfl rfl rfl rfl Tryz.isAgg22 rfl rfl ?_
    refine J.len rfl rfl rfl rfl rfl Tryz.runUnderlying22 ?_
    refine J.bin rfl rfl rfl rfl rfl rfl (fun w => rfl) ?_
    refine J.nil ?_
    refine C.cond rfl (fun h => ?_) (fun h => ?_)
    · have h : p.dt.length > 400 := by have := of_decide_eq_true h; omega
      rw [e0, if_pos h]
      refine C.seq ?_
      refine C.region ?_
      refine J.asg rfl rfl rfl rfl rfl ?_
      refine J.nil ?_
      refine C.ret ?_
      exact fin1 rfl (RV.tmp rfl) (fun w' h => h.ret0)
    · have h : ¬ p.dt.length > 400 := by have := of_decide_eq_false h; omega
      rw [e0, if_neg h]
      refine C.skip ?_
      refine C.seq ?_
      refine C.region ?_
      refine J.asg rfl rfl rfl rfl rfl ?_
      refine J.nil ?_
      refine C.ret ?_
      exact fin1 rfl (RV.tmp rfl) (fun w' h => h.ret0)
theorem rCheck_pt_calls (w : World) (p : Pt) (A : Option Addr) (c : Nat) (hl : p.dt.length ≤ 9223372036854775807) : Calls Tryz.prog 18 #[.agg #[vi p.ep, vi p.sq, vi p.vw, vi p.cm, .slice A p.dt.length c]] w (Ret0 w (vi (ptErr p))) := by
  have hl4 : p.nums.length = 4 := rfl
  refine calls_of_C Tryz.func18 rfl Tryz.ntmps18 (Nat.le_of_ble_eq_true rfl) ?_
  refine C.less (L' := [(0, _)]) ?_ (Sub.cons rfl (Sub.nil _)) (fun w h => h)
  refine C.seq ?_
  refine C.region ?_
  first | refine J.boxc rfl rfl rfl rfl rfl rfl (fun b1 => ?_) | refine J.box rfl rfl rfl rfl rfl (fun b1 => ?_)
  refine J.asg rfl rfl rfl rfl rfl ?_
  refine J.nil ?_
  refine C.seq ?_
  refine C.region ?_
  refine J.fld (k := 0) rfl rfl rfl rfl rfl Tryz.runUnderlying24 rfl rfl Tryz.sizeOf3 ?_
  refine J.ldo 0 rfl rfl rfl rfl rfl Tryz.isAgg3 rfl rfl ?_
  refine J.fld (k := 1) rfl rfl rfl rfl rfl Tryz.runUnderlying24 rfl rfl Tryz.sizeOf3 ?_
  refine J.ldo 0 rfl rfl rfl rfl rfl Tryz.isAgg3 rfl rfl ?_
  refine J.fld (k := 2) rfl rfl rfl rfl rfl Tryz.runUnderlying24 rfl rfl Tryz.sizeOf3 ?_
  refine J.ldo 0 rfl rfl rfl rfl rfl Tryz.isAgg3 rfl rfl ?_
  refine J.fld (k := 3) rfl rfl rfl rfl rfl Tryz.runUnderlying24 rfl rfl Tryz.sizeOf3 ?_
  refine J.ldo 0 rfl rfl rfl rfl rfl Tryz.isAgg3 rfl rfl ?_
  refine J.blds (vs := [_, _, _, _]) (cells := [_, _, _, _]) rfl rfl rfl rfl rfl Tryz.zeroValue3 Tryz.runUnderlying73 Tryz.sizeOf3 rfl rfl rfl rfl (fun b13 => ?_)
  refine J.asg rfl rfl rfl rfl rfl ?_
  refine J.nil ?_
  refine C.seq ?_
  refine C.seq ?_
  refine C.region ?_
  refine J.asg rfl rfl rfl rfl rfl ?_
  refine J.nil ?_
  refine C.block ?_
  refine C.loop (fun i : Nat => i ≤ 4 ∧ (p.nums.take i).any badN = false) (fun i => [(1, .pointer (some ⟨b1, 0, none⟩)), (3, .slice (some ⟨b13, 0, none⟩) 4 4), (4, vi (i : Int))]) (fun i => [blk b13 #[vi p.ep, vi p.sq, vi p.vw, vi p.cm] 3, blk b1 #[vi p.ep, vi p.sq, vi p.vw, vi p.cm, .slice A p.dt.length c] 24]) (fun i => 4 - i) 0 ⟨by omega, rfl⟩ ?_ ?_ ?_
  · exact (Sub.cons rfl (Sub.cons rfl (Sub.cons rfl (Sub.nil _))))
  · exact fun w h => h
  rintro i ⟨hi, hpre⟩
  refine C.seq ?_
  refine C.seq ?_
  refine C.region ?_
  refine J.move rfl rfl rfl rfl rfl ?_
  refine J.move rfl rfl rfl rfl rfl ?_
  refine J.len rfl rfl rfl rfl rfl Tryz.runUnderlying73 ?_
  refine J.bin rfl rfl rfl rfl rfl rfl (fun w => rfl) ?_
  refine J.nil ?_
  refine C.cond rfl (fun h => ?_) (fun h => ?_)
  · have hlt : i < p.nums.length := by have := of_decide_eq_true h; omega
    refine C.skip ?_
    refine C.seq ?_
    refine C.block ?_
    refine C.seq ?_
    refine C.region ?_
    refine J.move rfl rfl rfl rfl rfl ?_
    refine J.move rfl rfl rfl rfl rfl ?_
    first | refine J.idx1 rfl rfl rfl rfl rfl rfl Tryz.runUnderlying73 Tryz.sizeOf3 (by omega) ?_ | refine J.idx rfl rfl rfl rfl rfl rfl Tryz.runUnderlying73 Tryz.sizeOf3 (by omega) ?_
    refine J.ld rfl rfl rfl rfl rfl Tryz.isAgg3 (fun w h => cellO h 0 rfl (show (#[vi p.ep, vi p.sq, vi p.vw, vi p.cm] : Array Value)[0 + i]? = some (vi p.nums[i]) by rw [Nat.zero_add]; exact cells4 p i hlt)) ?_
    refine J.bin rfl rfl rfl rfl rfl rfl (fun w => rfl) ?_
    refine J.move rfl rfl rfl rfl rfl ?_
    rcases Decidable.em (p.nums[i] < 0) with h1 | h1
    · rw [ptErr4 i hlt (badN_t (.inl h1)), dec_t h1]
      refine J.pass rfl rfl rfl rfl rfl (by intro h; cases h) ?_
      refine J.pass rfl rfl rfl rfl rfl (by intro h; cases h) ?_
      refine J.pass rfl rfl rfl rfl rfl (by intro h; cases h) ?_
      refine J.pass rfl rfl rfl rfl rfl (by intro h; cases h) ?_
      refine J.pass rfl rfl rfl rfl rfl (by intro h; cases h) ?_
      refine J.pick rfl rfl rfl rfl rfl rfl ?_
      refine J.nil ?_
      refine C.cond_t rfl ?_
      refine C.seq ?_
      refine C.region ?_
      refine J.asg rfl rfl rfl rfl rfl ?_
      refine J.nil ?_
      refine C.ret ?_
      exact fin1 rfl (RV.tmp rfl) (fun w' h => h.ret0)
    · rw [dec_f h1]
      refine J.want rfl rfl rfl rfl ?_
      refine J.move rfl rfl rfl rfl rfl ?_
      refine J.want rfl rfl rfl rfl ?_
      refine J.move rfl rfl rfl rfl rfl ?_
      refine J.want rfl rfl rfl rfl ?_
      first | refine J.idx1 rfl rfl rfl rfl rfl rfl Tryz.runUnderlying73 Tryz.sizeOf3 (by omega) ?_ | refine J.idx rfl rfl rfl rfl rfl rfl Tryz.runUnderlying73 Tryz.sizeOf3 (by omega) ?_
      refine J.want rfl rfl rfl rfl ?_
      refine J.ld rfl rfl rfl rfl rfl Tryz.isAgg3 (fun w h => cellO h 0 rfl (show (#[vi p.ep, vi p.sq, vi p.vw, vi p.cm] : Array Value)[0 + i]? = some (vi p.nums[i]) by rw [Nat.zero_add]; exact cells4 p i hlt)) ?_
      refine J.want rfl rfl rfl rfl ?_
      refine J.bin rfl rfl rfl rfl rfl rfl (fun w => rfl) ?_
      refine J.pick rfl rfl rfl rfl rfl rfl ?_
      refine J.nil ?_
      refine C.cond rfl (fun h2 => ?_) (fun h2 => ?_)
      · rw [ptErr4 i hlt (badN_t (.inr (of_decide_eq_true h2)))]
        refine C.seq ?_
        refine C.region ?_
        refine J.asg rfl rfl rfl rfl rfl ?_
        refine J.nil ?_
        refine C.ret ?_
        exact fin1 rfl (RV.tmp rfl) (fun w' h => h.ret0)
      · have h2 := of_decide_eq_false h2
        refine C.skip ?_
        refine C.region ?_
        refine J.move rfl rfl rfl rfl rfl ?_
        refine J.bin rfl rfl rfl rfl rfl rfl (fun w => ra_add (by omega)) ?_
        refine J.asg rfl rfl rfl rfl rfl ?_
        refine J.nil ?_
        exact ⟨rfl, i + 1, ⟨by have : p.nums.length = 4 := rfl; omega, any_take_snoc i hlt hpre (badN_f h1 h2)⟩, by have : p.nums.length = 4 := rfl; omega, (Sub.cons rfl (Sub.cons rfl (Sub.cons rfl (Sub.nil _)))), fun w h => h⟩
  · have h := of_decide_eq_false h
    have hge : i = 4 := by omega
    subst hge
    have hpre : p.nums.any badN = false := hpre
    have e0 : ptErr p = if p.dt.length > 400 then 5 else 0 := by unfold ptErr; rw [if_neg (by rw [hpre]; simp)]
    refine C.exit rfl ?_
    refine C.seq ?_
    refine C.seq ?_
    refine C.region ?_
    refine J.fld (k := 4) rfl rfl rfl rfl rfl Tryz.runUnderlying24 rfl rfl Tryz.sizeOf22 ?_
    refine J.ldo 1 rfl rfl rfl rfl rfl Tryz.isAgg22 rfl rfl ?_
    refine J.len rfl rfl rfl rfl rfl Tryz.runUnderlying22 ?_
    refine J.bin rfl rfl rfl rfl rfl rfl (fun w => rfl) ?_
    refine J.nil ?_
    refine C.cond rfl (fun h => ?_) (fun h => ?_)
    · have h : p.dt.length > 400 := by have := of_decide_eq_true h; omega
      rw [e0, if_pos h]
      refine C.seq ?_
      refine C.region ?_
      refine J.asg rfl rfl rfl rfl rfl ?_
      refine J.nil ?_
      refine C.ret ?_
      exact fin1 rfl (RV.tmp rfl) (fun w' h => h.ret0)
    · have h : ¬ p.dt.length > 400 := by have := of_decide_eq_false h; omega
      rw [e0, if_neg h]
      refine C.skip ?_
      refine C.seq ?_
      refine C.region ?_
      refine J.asg rfl rfl rfl rfl rfl ?_
      refine J.nil ?_
      refine C.ret ?_
      exact fin1 rfl (RV.tmp rfl) (fun w' h => h.ret0)
end Go.Proofs.YtiminmnmeknioaaGreatDoor

/- Points as octets. -/
set_option linter.unusedVariables false
namespace Go.Proofs.YtiminmnmeknioaaGreatDoor
open Go Go.RowKit

theorem inf_size {P : Program} {e : TypeId} {z : Option Value} {s b : Nat} (h : (P.info? e).map (fun i => (i.zero, i.size, i.bytes)) = some (z, s, b)) : (P.info? e).map (·.size) = some s := by
  obtain ⟨i, hi, h⟩ := Option.map_eq_some_iff.1 h
  simp only [Prod.mk.injEq] at h
  rw [hi, Option.map_some, h.2.1]
def ptRec (p : Pt) : List UInt8 := (encRec 7 p.nums [p.dt]).1
def ptReg (p : Pt) : List UInt8 := be2 (ptRec p).length ++ ptRec p ++ List.replicate (510 - (ptRec p).length) 0
def ptEnc (p : Pt) : List UInt8 × Int := if ptErr p = 0 then (ptReg p, 0) else ([], ptErr p)
theorem ptErr_ok {p : Pt} (h : ptErr p = 0) : (∀ n ∈ p.nums, 0 ≤ n ∧ n ≤ 1099511627776) ∧ p.dt.length ≤ 400 := by
  unfold ptErr at h
  split at h
  · cases h
  · split at h
    · cases h
    · rename_i h1 h2
      refine ⟨fun n hn => ?_, by omega⟩
      have := fun hb => h1 (List.any_eq_true.2 ⟨n, hn, hb⟩)
      unfold badN at this
      simp at this
      omega
theorem ptRec_eq {p : Pt} (h : ptErr p = 0) : encRec 7 p.nums [p.dt] = (ptRec p, 0) ∧ (ptRec p).length ≤ 460 := by
  obtain ⟨h1, h2⟩ := ptErr_ok h
  have e : recErr 7 p.nums [p.dt] = 0 := by
    unfold recErr
    rw [if_neg (by omega), if_neg (by simp [Pt.nums]), if_neg (by simp; omega)]
  have e2 : encRec 7 p.nums [p.dt] = (recBody 7 p.nums [p.dt] ++ le4 (crcSum (recBody 7 p.nums [p.dt])), 0) := by unfold encRec; rw [if_pos e]
  unfold ptRec
  rw [e2]
  refine ⟨rfl, ?_⟩
  have h3 := recNums_len (nums := p.nums) (fun n hn => by have := h1 n hn; omega)
  have h4 : p.nums.length = 4 := rfl
  have h5 := recTexts_len (texts := [p.dt]) (by simp; omega)
  have h6 : (recTexts [p.dt]).length ≤ 410 := by
    unfold recTexts
    have := uv_len10 (m := p.dt.length) (by omega)
    simp; omega
  simp [recBody, le4]; omega
theorem ptReg_len {p : Pt} (h : ptErr p = 0) : (ptReg p).length = 512 := by
  have := (ptRec_eq h).2
  simp [ptReg, be2]; omega
theorem joined_one {x : List UInt8} (h : x.length ≤ 65535) : joined [x] = (be2 x.length ++ x, 0) := by
  have e : joinErr [x] = 0 := by unfold joinErr; rw [if_neg (by simp), if_neg (by simp; omega)]
  unfold joined
  rw [if_pos e]
  simp [joinB]
theorem bsa1 {mu : Nat → Prop} {w0 w : World} {M : List Res} {b : Nat} {t : TypeId} {v : Value} {x : List UInt8} (h : St mu w0 M w) (k : Nat) (hk : M[k]? = some (blk b #[v] t)) (hx : BA w v x) : BSA w (.slice (some ⟨b, 0, none⟩) 1 1) [x] := by
  have hb := (h.bd k hk (show (blk b #[v] t).fp b from rfl)).2
  refine RBS.mk rfl (Nat.le_refl _) (by omega) fun _ => ⟨b, 0, rfl, hb, fun j xs hj => ?_⟩
  match j, hj with
  | 0, hj => injection hj with hj; subst hj; exact ⟨v, cellO h k hk rfl, hx⟩
theorem ia4 {mu : Nat → Prop} {w0 w : World} {M : List Res} {b : Nat} {t : TypeId} {p : Pt} (h : St mu w0 M w) (k : Nat) (hk : M[k]? = some (blk b #[vi p.ep, vi p.sq, vi p.vw, vi p.cm] t)) : IA w (.slice (some ⟨b, 0, none⟩) 4 4) p.nums := by
  have hb := (h.bd k hk (show (blk b _ t).fp b from rfl)).2
  refine RI.mk rfl (Nat.le_refl _) (by omega) fun _ => ⟨b, 0, rfl, hb, fun j x hj => ?_⟩
  obtain ⟨hl, rfl⟩ := List.getElem?_eq_some_iff.1 hj
  exact cellO h k hk (by rw [Nat.zero_add]; exact cells4 p j hl)
theorem okI {p : Pt} (h : ptErr p = 0) : ∀ n ∈ p.nums, -9223372036854775808 ≤ n ∧ n ≤ 9223372036854775807 := fun n hn => by have := (ptErr_ok h).1 n hn; omega

theorem regCells (xs : List UInt8) (h : xs.length ≤ 512) : (List.replicate 512 (Value.int .u8 0)).toArray.toList.take 0 ++ xs.map vu8 ++ (List.replicate 512 (Value.int .u8 0)).toArray.toList.drop (0 + (xs.map vu8).length) = (xs ++ List.replicate (512 - xs.length) 0).map vu8 := by
  rw [List.take_zero, List.nil_append, Nat.zero_add, List.length_map, List.map_append, List.drop_replicate, List.map_replicate]
  rfl
theorem ptReg_pad {p : Pt} (h : (ptRec p).length ≤ 460) : ptReg p = (be2 (ptRec p).length ++ ptRec p) ++ List.replicate (512 - (be2 (ptRec p).length ++ ptRec p).length) 0 := by
  unfold ptReg
  congr 2
  simp [be2] <;> omega
/-- Octets in a row of one's own, and an error. -/
def PBr (xs : List UInt8) (e : Int) : Value → Res → Prop := fun v r => ∃ A c, v = .tuple #[.slice A xs.length c, .int .i64 e] ∧ r = rowR 5 1 (.slice A xs.length c) xs.length (xs.map vu8)
theorem PBr_PBE {w w' : World} {e : Ending} {xs : List UInt8} {er : Int} (h : Ret w (PBr xs er) e w') : Ret w (PBE xs er) e w' := by
  obtain ⟨v, r, rfl, hb, hr, hf, A, c, rfl, rfl⟩ := h
  have hrb : RB _ w' (.slice A xs.length c) xs := RB.of_row hr rfl
  obtain ⟨A', c', hv, h1, _, h2⟩ := hrb.form
  injection hv with e1 e2 e3
  subst e1 e3
  exact ⟨_, rbR _ _ xs, rfl, hb, hrb, fun b hb' => hf b hb', A, c, _, (fun hn => (h2 hn).elim fun b h => h.elim fun o h => ⟨b, o, h.1, h.2.1⟩), h1, rfl, rfl⟩
theorem Encode_row_calls (w : World) (p : Pt) (dv : Value) (hx : BA w dv p.dt) (hl : p.dt.length ≤ 140737488355328) : Calls Tryz.prog 10 #[.agg #[vi p.ep, vi p.sq, vi p.vw, vi p.cm, dv]] w (Ret w (PBr (ptEnc p).1 (ptEnc p).2)) := by
  have hx0 := hx
  obtain ⟨A, c, rfl, h1, h2, h3⟩ := hx.form
  refine calls_of_C Tryz.func10 rfl Tryz.ntmps10 (Nat.le_of_ble_eq_true rfl) ?_
  refine C.less (L' := [(0, _)]) ?_ (Sub.cons rfl (Sub.nil _)) (fun w h => h)
  refine C.seq ?_
  refine C.region ?_
  first | refine J.boxc rfl rfl rfl rfl rfl rfl (fun b1 => ?_) | refine J.box rfl rfl rfl rfl rfl (fun b1 => ?_)
  refine J.asg rfl rfl rfl rfl rfl ?_
  refine J.asg rfl rfl rfl rfl rfl ?_
  refine J.nil ?_
  refine C.seq ?_
  refine C.seq ?_
  refine C.region ?_
  refine J.ldw 0 rfl rfl rfl rfl rfl Tryz.isAgg25 rfl Tryz.sizeOf25 ?_
  refine J.call0 rfl rfl rfl rfl rfl Tryz.call17 (fun w h => Check_pt_calls w p A c (by omega)) ?_
  refine J.asg rfl rfl rfl rfl rfl ?_
  refine J.nil ?_
  refine C.seq ?_
  refine C.region ?_
  refine J.move rfl rfl rfl rfl rfl ?_
  refine J.bin rfl rfl rfl rfl rfl rfl (fun w => rfl) ?_
  refine J.nil ?_
  refine C.cond rfl (fun he => ?_) (fun he => ?_)
  · have he' : ptErr p ≠ 0 := by simpa using he
    have e : ptEnc p = ([], ptErr p) := by unfold ptEnc; rw [if_neg he']
    rw [e]
    refine C.seq ?_
    refine C.region ?_
    refine J.move rfl rfl rfl rfl rfl ?_
    refine J.asg rfl rfl rfl rfl rfl ?_
    refine J.asg rfl rfl rfl rfl rfl ?_
    refine J.nil ?_
    refine C.ret ?_
    exact fin2 rfl (RV.tmp rfl) (RV.tmp rfl) (fun w' h => (h.nilRow 5 1).ret 0 rfl ⟨none, 0, rfl, rfl⟩)
  · have he' : ptErr p = 0 := by simpa using he
    have e : ptEnc p = (ptReg p, 0) := by unfold ptEnc; rw [if_pos he']
    have hre := ptRec_eq he'
    rw [e]
    refine C.skip ?_
    refine C.seq ?_
    refine C.regionD0 12 (by kernel_rfl) ?_
    refine JD.take 0 rfl rfl rfl rfl (by kernel_rfl) (fun w h => h) (R.ldw 0 rfl rfl Tryz.isAgg25 rfl Tryz.sizeOf25) ?_
    refine JD.take 2 rfl rfl rfl rfl (by kernel_rfl) (fun w h => h) (R.fld (k := 4) rfl rfl Tryz.runUnderlying25 rfl rfl Tryz.sizeOf22) ?_
    refine JD.take 3 rfl rfl rfl rfl (by kernel_rfl) (fun w h => h) (R.ld rfl rfl Tryz.isAgg22 (fun w h => cellL h 0 rfl rfl)) ?_
    refine JD.both 1 4 rfl rfl (by kernel_rfl) ?_ ?_
    · refine J.callr rfl rfl rfl rfl rfl Tryz.call34 (fun w h => nums_pt_calls w p _)  ?_
      rintro v17 r17 ⟨b17, rfl, rfl⟩
      refine J.nil ⟨(fun _ w h => (h.sub ((List.Sublist.refl _).cons _))), ?_⟩
      refine JD.step 4 rfl (by kernel_rfl) ?_
      refine J.blds (vs := [_]) (cells := [_]) rfl rfl rfl rfl rfl Tryz.zeroValue22 Tryz.runUnderlying44 Tryz.sizeOf22 rfl rfl rfl rfl (fun b20 => ?_)
      refine J.nil ⟨(fun _ w h => (h.sub (((List.Sublist.refl _).cons _).cons _))), ?_⟩
      refine JD.take 5 rfl rfl rfl rfl (by kernel_rfl) (fun w h => (h.sub (((List.Sublist.refl _).cons _).cons _))) (R.bld (pl := #[(0, 1), (1, 1), (2, 1)]) (cells := #[_, _, _]) rfl rfl Tryz.zeroValue76 Tryz.runUnderlying76 (fun w => by kernel_rfl) rfl) ?_
      refine JD.step 6 rfl (by kernel_rfl) ?_
      refine J.callr rfl rfl rfl rfl rfl Tryz.call33 (fun w h => Encode_calls w 7 _ _ p.nums [p.dt] (ia4 h 1 rfl) (bsa1 h 0 rfl (h.ba hx0)) (okI he') (by simp [Pt.nums]) (by simp) (by simp; omega))  ?_
      rintro v22 r22 ⟨A22, c22, fp22, hA22, hc22, rfl, rfl⟩
      refine J.nil ⟨(fun _ w h => (h.sub ((((List.Sublist.refl _).cons _).cons _).cons _))), ?_⟩
      refine JD.take 7 rfl rfl rfl rfl (by kernel_rfl) (fun w h => (h.sub ((((List.Sublist.refl _).cons _).cons _).cons _))) (R.move rfl rfl) ?_
      refine JD.take 8 rfl rfl rfl rfl (by kernel_rfl) (fun w h => (h.sub ((((List.Sublist.refl _).cons _).cons _).cons _))) (R.ext rfl rfl rfl) ?_
      refine JD.take 9 rfl rfl rfl rfl (by kernel_rfl) (fun w h => (h.sub ((((List.Sublist.refl _).cons _).cons _).cons _))) (R.ext rfl rfl rfl) ?_
      refine JD.take 10 rfl rfl rfl rfl (by kernel_rfl) (fun w h => (h.sub ((((List.Sublist.refl _).cons _).cons _).cons _))) (R.asg rfl rfl) ?_
      refine JD.take 11 rfl rfl rfl rfl (by kernel_rfl) (fun w h => (h.sub ((((List.Sublist.refl _).cons _).cons _).cons _))) (R.asg rfl rfl) ?_
      refine JD.done (by kernel_rfl) ?_
      refine C.seq ?_
      refine C.region ?_
      refine J.move rfl rfl rfl rfl rfl ?_
      refine J.blds (vs := [_]) (cells := [_]) rfl rfl rfl rfl rfl Tryz.zeroValue22 Tryz.runUnderlying44 Tryz.sizeOf22 rfl rfl rfl rfl (fun b27 => ?_)
      rw [hre.1]
      refine J.callr rfl rfl rfl rfl rfl Tryz.call35 (fun w h => Join_calls w _ [ptRec p] (bsa1 h 0 rfl (h.rb 1 rfl)))  ?_
      rintro v28 r28 ⟨A28, c28, fp28, hA28, hc28, rfl, rfl⟩
      refine J.move rfl rfl rfl rfl rfl ?_
      refine J.ext rfl rfl rfl rfl rfl rfl ?_
      refine J.ext rfl rfl rfl rfl rfl rfl ?_
      refine J.asg rfl rfl rfl rfl rfl ?_
      refine J.asg rfl rfl rfl rfl rfl ?_
      refine J.nil ?_
      refine C.seq ?_
      refine C.region ?_
      rw [joined_one (by omega)]
      refine J.mk rfl rfl rfl rfl rfl rfl (n := 512) rfl rfl  Tryz.underlying22 inf5 rfl  (by omega) (by omega) (fun b31 => ?_)
      refine J.asg rfl rfl rfl rfl rfl ?_
      refine J.nil ?_
      refine C.seq ?_
      refine C.region ?_
      refine J.move rfl rfl rfl rfl rfl ?_
      refine J.move rfl rfl rfl rfl rfl ?_
      have hjl : (be2 (ptRec p).length ++ ptRec p).length ≤ 512 := by simp [be2]; omega
      refine J.copy 0 rfl rfl rfl rfl rfl rfl Tryz.underlying22 (inf_size inf5) rfl (news := (be2 (ptRec p).length ++ ptRec p).map vu8) (by rw [List.length_map]; exact (Nat.min_eq_left hjl).symm) (fun w h hn => srcB (h.rb 1 rfl) hn) (by rw [List.length_map, List.size_toArray, List.length_replicate]; omega) (all_u8 _) ?_
      refine J.nil ?_
      refine C.seq ?_
      refine C.region ?_
      refine J.move rfl rfl rfl rfl rfl ?_
      refine J.asg rfl rfl rfl rfl rfl ?_
      refine J.asg rfl rfl rfl rfl rfl ?_
      refine J.nil ?_
      refine C.ret ?_
      refine fin2 rfl (RV.tmp rfl) (RV.tmp rfl) (fun w' h => ?_)
      have hl5 := ptReg_len he'
      have h2 := blk_row (n := 512) (sz := 1) h (by omega) (by rw [List.size_toArray, regCells _ hjl, List.length_map, ← ptReg_pad hre.2, hl5])
      refine h2.ret 0 rfl ⟨some ⟨b31, 0, none⟩, 512, ?_, ?_⟩
      · rw [hl5]
      · rw [hl5, regCells _ hjl, ← ptReg_pad hre.2]
    · refine J.blds (vs := [_]) (cells := [_]) rfl rfl rfl rfl rfl Tryz.zeroValue22 Tryz.runUnderlying44 Tryz.sizeOf22 rfl rfl rfl rfl (fun b20 => ?_)
      refine J.nil ⟨(fun _ w h => (h.sub ((List.Sublist.refl _).cons _))), ?_⟩
      refine JD.step 1 rfl (by kernel_rfl) ?_
      refine J.callr rfl rfl rfl rfl rfl Tryz.call34 (fun w h => nums_pt_calls w p _)  ?_
      rintro v17 r17 ⟨b17, rfl, rfl⟩
      refine J.nil ⟨(fun _ w h => (h.sub (((List.Sublist.refl _).cons _).cons _))), ?_⟩
      refine JD.take 5 rfl rfl rfl rfl (by kernel_rfl) (fun w h => (h.sub (((List.Sublist.refl _).cons _).cons _))) (R.bld (pl := #[(0, 1), (1, 1), (2, 1)]) (cells := #[_, _, _]) rfl rfl Tryz.zeroValue76 Tryz.runUnderlying76 (fun w => by kernel_rfl) rfl) ?_
      refine JD.step 6 rfl (by kernel_rfl) ?_
      refine J.callr rfl rfl rfl rfl rfl Tryz.call33 (fun w h => Encode_calls w 7 _ _ p.nums [p.dt] (ia4 h 0 rfl) (bsa1 h 1 rfl (h.ba hx0)) (okI he') (by simp [Pt.nums]) (by simp) (by simp; omega))  ?_
      rintro v22 r22 ⟨A22, c22, fp22, hA22, hc22, rfl, rfl⟩
      refine J.nil ⟨(fun _ w h => (h.sub ((((List.Sublist.refl _).cons _).cons _).cons _))), ?_⟩
      refine JD.take 7 rfl rfl rfl rfl (by kernel_rfl) (fun w h => (h.sub ((((List.Sublist.refl _).cons _).cons _).cons _))) (R.move rfl rfl) ?_
      refine JD.take 8 rfl rfl rfl rfl (by kernel_rfl) (fun w h => (h.sub ((((List.Sublist.refl _).cons _).cons _).cons _))) (R.ext rfl rfl rfl) ?_
      refine JD.take 9 rfl rfl rfl rfl (by kernel_rfl) (fun w h => (h.sub ((((List.Sublist.refl _).cons _).cons _).cons _))) (R.ext rfl rfl rfl) ?_
      refine JD.take 10 rfl rfl rfl rfl (by kernel_rfl) (fun w h => (h.sub ((((List.Sublist.refl _).cons _).cons _).cons _))) (R.asg rfl rfl) ?_
      refine JD.take 11 rfl rfl rfl rfl (by kernel_rfl) (fun w h => (h.sub ((((List.Sublist.refl _).cons _).cons _).cons _))) (R.asg rfl rfl) ?_
      refine JD.done (by kernel_rfl) ?_
      refine C.seq ?_
      refine C.region ?_
      refine J.move rfl rfl rfl rfl rfl ?_
      refine J.blds (vs := [_]) (cells := [_]) rfl rfl rfl rfl rfl Tryz.zeroValue22 Tryz.runUnderlying44 Tryz.sizeOf22 rfl rfl rfl rfl (fun b27 => ?_)
      rw [hre.1]
      refine J.callr rfl rfl rfl rfl rfl Tryz.call35 (fun w h => Join_calls w _ [ptRec p] (bsa1 h 0 rfl (h.rb 1 rfl)))  ?_
      rintro v28 r28 ⟨A28, c28, fp28, hA28, hc28, rfl, rfl⟩
      refine J.move rfl rfl rfl rfl rfl ?_
      refine J.ext rfl rfl rfl rfl rfl rfl ?_
      refine J.ext rfl rfl rfl rfl rfl rfl ?_
      refine J.asg rfl rfl rfl rfl rfl ?_
      refine J.asg rfl rfl rfl rfl rfl ?_
      refine J.nil ?_
      refine C.seq ?_
      refine C.region ?_
      rw [joined_one (by omega)]
      refine J.mk rfl rfl rfl rfl rfl rfl (n := 512) rfl rfl  Tryz.underlying22 inf5 rfl  (by omega) (by omega) (fun b31 => ?_)
      refine J.asg rfl rfl rfl rfl rfl ?_
      refine J.nil ?_
      refine C.seq ?_
      refine C.region ?_
      refine J.move rfl rfl rfl rfl rfl ?_
      refine J.move rfl rfl rfl rfl rfl ?_
      have hjl : (be2 (ptRec p).length ++ ptRec p).length ≤ 512 := by simp [be2]; omega
      refine J.copy 0 rfl rfl rfl rfl rfl rfl Tryz.underlying22 (inf_size inf5) rfl (news := (be2 (ptRec p).length ++ ptRec p).map vu8) (by rw [List.length_map]; exact (Nat.min_eq_left hjl).symm) (fun w h hn => srcB (h.rb 1 rfl) hn) (by rw [List.length_map, List.size_toArray, List.length_replicate]; omega) (all_u8 _) ?_
      refine J.nil ?_
      refine C.seq ?_
      refine C.region ?_
      refine J.move rfl rfl rfl rfl rfl ?_
      refine J.asg rfl rfl rfl rfl rfl ?_
      refine J.asg rfl rfl rfl rfl rfl ?_
      refine J.nil ?_
      refine C.ret ?_
      refine fin2 rfl (RV.tmp rfl) (RV.tmp rfl) (fun w' h => ?_)
      have hl5 := ptReg_len he'
      have h2 := blk_row (n := 512) (sz := 1) h (by omega) (by rw [List.size_toArray, regCells _ hjl, List.length_map, ← ptReg_pad hre.2, hl5])
      refine h2.ret 0 rfl ⟨some ⟨b31, 0, none⟩, 512, ?_, ?_⟩
      · rw [hl5]
      · rw [hl5, regCells _ hjl, ← ptReg_pad hre.2]
theorem Encode_pt_calls (w : World) (p : Pt) (dv : Value) (hx : BA w dv p.dt) (hl : p.dt.length ≤ 140737488355328) : Calls Tryz.prog 10 #[.agg #[vi p.ep, vi p.sq, vi p.vw, vi p.cm, dv]] w (Ret w (PBE (ptEnc p).1 (ptEnc p).2)) :=
  (Encode_row_calls w p dv hx hl).mono fun _ _ h => PBr_PBE h
end Go.Proofs.YtiminmnmeknioaaGreatDoor

/- append of zeros to a row of one's own. The laws up to run_append_zeros are of the kit's print tool (print.sh), printed for this seat; taken over as it stands. -/
set_option linter.unusedVariables false
set_option linter.unusedSimpArgs false
namespace Go.Proofs.YtiminmnmeknioaaGreatDoor
open Go Go.RowKit
theorem add_plain (g j : Nat) : (⟨g, 0, none⟩ : Addr).add j = ⟨g, j, none⟩ := by unfold Addr.add; split <;> simp_all
theorem blk_frozen {w : World} {g : Nat} {t : TypeId} {cs : Array Value} (h : w.heap[g]? = some (.cells cs t (0, 0))) (i : Nat) : w.frozen? ⟨g, i, none⟩ = false := by simp [World.frozen?, h]
theorem blk_set {w : World} {g : Nat} {t : TypeId} {cs : Array Value} (h : w.heap[g]? = some (.cells cs t (0, 0))) (i : Nat) (u : Value) : (w.setCell ⟨g, i, none⟩ u).heap[g]? = some (.cells (cs.setIfInBounds i u) t (0, 0)) := by
  simp [World.setCell, Array.getElem?_modify, h]
/-- What a run of cells written leaves. -/
theorem setCells_far {g : Nat} : ∀ (vs : List Value) (o : Nat) {w : World} (k : Nat), k ≠ g → (w.setCells g o vs).heap[k]? = w.heap[k]?
  | [], _, _, _, _ => rfl
  | v :: r, o, w, k, hk => by
    rw [World.setCells, setCells_far r (o + 1) k hk]
    exact Below.heap_setCell w ⟨g, o, none⟩ v k hk
theorem setCells_same (g : Nat) : ∀ (vs : List Value) (o : Nat) (w : World), (w.setCells g o vs).os = w.os ∧ (w.setCells g o vs).tape = w.tape ∧ (w.setCells g o vs).output = w.output ∧ (w.setCells g o vs).heap.size = w.heap.size
  | [], _, _ => ⟨rfl, rfl, rfl, rfl⟩
  | v :: r, o, w => by
    obtain ⟨h1, h2, h3, h4⟩ := setCells_same g r (o + 1) (w.setCell ⟨g, o, none⟩ v)
    rw [World.setCells]
    exact ⟨h1, h2, h3, by rw [h4]; simp [World.setCell]⟩
theorem setCells_row {g : Nat} {e : TypeId} : ∀ (vs : List Value) (o : Nat) (w : World) (cur : Array Value), w.heap[g]? = some (.cells cur e (0, 0)) → o + vs.length ≤ cur.size →
    ∃ cur', (w.setCells g o vs).heap[g]? = some (.cells cur' e (0, 0)) ∧ cur'.size = cur.size ∧ cur'.toList = cur.toList.take o ++ vs ++ cur.toList.drop (o + vs.length)
  | [], o, w, cur, h, _ => ⟨cur, h, rfl, by simp⟩
  | v :: r, o, w, cur, h, hl => by
    have h2 := blk_set h o v
    simp only [List.length_cons] at hl
    obtain ⟨cur', h3, h4, h5⟩ := setCells_row r (o + 1) (w.setCell ⟨g, o, none⟩ v) _ h2 (by simp; omega)
    refine ⟨cur', h3, by rw [h4]; simp, ?_⟩
    rw [h5, Array.toList_setIfInBounds]
    have ho : o < cur.toList.length := by rw [Array.length_toList]; omega
    rw [List.take_set, List.drop_set_of_lt (by omega)]
    simp only [List.length_cons]
    rw [show o + 1 + r.length = o + (r.length + 1) by omega]
    congr 1
    rw [List.take_succ_eq_append_getElem ho, List.set_append_right _ _ (by rw [List.length_take]; omega)]
    have ho' : o < cur.size := by omega
    simp [Nat.min_eq_left (Nat.le_of_lt ho')]
section
variable {P : Program}
theorem run_append_zeros (w : World) (base : Nat) (t ti ty e : TypeId) (i : TypeInfo) (z : Value) (size bytes : Nat) (ht : P.underlying t = some (.slice e)) {k : IntKind} (hti : P.underlying ti = some (.int k)) (hi : P.info? e = some i) (hz : i.zero = some z)
    (hsize : i.size = size) (hby : i.bytes = bytes) (hzs : z.cells.size = size) (hsz : 0 < size) (hb0 : 0 < bytes)
    (v : Value) (n : Nat) (xs : List Value) (hown : w.ownsRow base e size v n xs) (kx : IntKind) (m : Nat) (h1 : ∀ u ∈ (Builtin.zeroCells z.cells m).toList, u.oneCell' = true)
    (hbytes : (n + m) * bytes ≤ 140737488355328) (hbase : base ≤ w.heap.size) :
    ∃ v' w', (Builtin.append_ #[t, ti] ty #[v, .int kx m]).run P w = .ok v' w' ∧ w'.ownsRow base e size v' (n + m) (xs ++ (Builtin.zeroCells z.cells m).toList) ∧ w.grownBy w' v.ownBlock ∧
      (v'.ownBlock = v.ownBlock ∨ v'.ownBlock = some w.heap.size) := by
  subst hsize
  subst hby
  have hle : n + m ≤ 140737488355328 := Nat.le_trans (Nat.le_mul_of_pos_right _ hb0) hbytes
  have h63 : n + m ≤ maxLen := by simp only [maxLen]; omega
  have hw : IntKind.i64.wrap (m : Int) = m := by rw [IntKind.wrap_i64]; omega
  have hw0 : IntKind.i64.wrap 0 = 0 := by rw [IntKind.wrap_i64]; rfl
  have hneg : ¬ ((m : Int) < 0) := by omega
  have hmb : m * i.bytes ≤ 140737488355328 := Nat.le_trans (Nat.mul_le_mul_right _ (Nat.le_add_left m n)) hbytes
  have hbig : ¬ (281474976710656 < (m : Int) * (i.bytes : Int)) := by
    rw [← Int.natCast_mul]
    omega
  have hsn : i.size ≠ 0 := by omega
  obtain ⟨news, hnews⟩ : ∃ news, news = (Builtin.zeroCells z.cells m).toList := ⟨_, rfl⟩
  rw [← hnews] at h1 ⊢
  have hl : news.length = m * i.size := by rw [hnews, Array.length_toList, size_zeroCells, hzs]
  have hna : Builtin.zeroCells z.cells m = news.toArray := by rw [hnews]
  have hlen : (xs ++ news).length = (n + m) * i.size := by rw [List.length_append, hown.1, hl, Nat.add_mul]
  have hnil : m = 0 → news = [] := fun h => List.eq_nil_of_length_eq_zero (by rw [hl, h, Nat.zero_mul])
  have grown : ∀ (old : Nat), old < n + m → ∀ (row : Option Nat),
      (w.drew.alloc (.cells (xs.toArray ++ news.toArray ++ Builtin.zeroCells z.cells (grownCap w (n + m) old e - (n + m))) e)).ownsRow base e i.size
        (.slice (some ⟨w.heap.size, 0, none⟩) (n + m) (grownCap w (n + m) old e)) (n + m) (xs ++ news) ∧
      w.grownBy (w.drew.alloc (.cells (xs.toArray ++ news.toArray ++ Builtin.zeroCells z.cells (grownCap w (n + m) old e - (n + m))) e)) row := by
    intro old ho row
    have hge := grownCap_ge w (n + m) old e
    have hcm : grownCap w (n + m) old e ≤ maxLen := grownCap_le_maxLen w (n + m) old e h63
    refine ⟨⟨hlen, .inr ⟨w.heap.size, _, _, rfl, hbase, heap_alloc_new w.drew _, hge, hcm, ?_, ?_⟩⟩, ⟨rfl, rfl, rfl, by simp, fun k hk _ => heap_alloc_old w.drew _ hk⟩⟩
    · simp only [Array.size_append, List.size_toArray, size_zeroCells, hzs, hown.1, hl, ← Nat.add_mul]
      congr 1
      omega
    · simp only [Array.toList_append, List.append_assoc]
      rw [← List.append_assoc, ← hlen]
      exact List.take_left
  have runs : ∀ (A : Option Addr) (cap : Nat), cap < n + m → (Builtin.firstCells i.size n (.slice A n cap)).run P w.drew = .ok xs.toArray w.drew → (Builtin.append_ #[t, ti] ty #[.slice A n cap, .int kx m]).run P w =
      .ok (.slice (some ⟨w.heap.size, 0, none⟩) (n + m) (grownCap w (n + m) cap e)) (w.drew.alloc (.cells (xs.toArray ++ news.toArray ++ Builtin.zeroCells z.cells (grownCap w (n + m) cap e - (n + m))) e)) := by
    intro A cap hcap hfo
    have hn : ¬ (n + m ≤ cap) := by omega
    have h63' : ¬ (9223372036854775807 < ((n : Int) + (m : Int))) := by omega
    have hfit := growslice_fits hcap hbytes
    have h48' : ¬ (281474976710656 < Builtin.nextslicecap (n + m) cap * i.bytes) := by omega
    by_cases hm : m = 0
    · have hnl := hnil hm
      subst hm
      rw [hnl]
      simp only [Nat.add_zero] at hn h63' h48' ⊢
      have h63'' : ¬ (9223372036854775807 < (n : Int)) := by omega
      simp [Builtin.append_, run_underlying ht, run_underlying hti, sizeOf, typeInfo, zeroValue, hi, hz, asInt, asIntOf, hw0, hn, h63'', h48', Question.forced, hfo, newRow, grownCap]
    · have hmz : ¬ (m * i.size = 0) := Nat.mul_ne_zero hm hsn
      simp [Builtin.append_, run_underlying ht, run_underlying hti, sizeOf, typeInfo, zeroValue, hi, hz, asInt, asIntOf, hw, hneg, hbig, hn, h63', h48', Question.forced, hfo, newRow, grownCap, hmz, hna]
      congr 2
      apply Array.ext'
      simp [List.append_assoc]
  rcases hown.2 with ⟨rfl, rfl⟩ | ⟨g, cap, cur, rfl, hbg, hg, hnc, hcm, hcs, htake⟩
  · have hx : xs = [] := List.eq_nil_of_length_eq_zero (by simpa using hown.1)
    subst hx
    by_cases hm : m = 0
    · have hnl := hnil hm
      subst hm
      rw [hnl]
      refine ⟨.slice none 0 0, w, ?_, World.ownsRow_nil w base e i.size, ⟨rfl, rfl, rfl, Nat.le_refl _, fun _ _ _ => rfl⟩, Or.inl rfl⟩
      simp [Builtin.append_, run_underlying ht, run_underlying hti, sizeOf, typeInfo, hi, asInt, asIntOf, hw0]
    · have hgr := grown 0 (by omega) (Value.ownBlock (.slice none 0 0))
      exact ⟨_, _, runs none 0 (by omega) (by simp [Builtin.firstCells]), hgr.1, hgr.2, Or.inr rfl⟩
  · by_cases hroom : n + m ≤ cap
    · have hfit : n * i.size + news.length ≤ cur.size := by rw [hl, hcs, ← Nat.add_mul]; exact Nat.mul_le_mul_right _ hroom
      obtain ⟨cur', h3, h4, h5⟩ := setCells_row news (n * i.size) w cur hg hfit
      obtain ⟨s1, s2, s3, s4⟩ := setCells_same g news (n * i.size) w
      have hst := run_storeCells_cells (P := P) g (n * i.size) news 0 w (fun j hj => by rw [cell_of_row w g _ cur e (0, 0) hg]; simp; omega) (fun j _ => blk_frozen hg _) h1
      simp only [Nat.add_zero] at hst
      refine ⟨.slice (some ⟨g, 0, none⟩) (n + m) cap, w.setCells g (n * i.size) news, ?_, ⟨hlen, .inr ⟨g, cap, cur', rfl, hbg, h3, hroom, hcm, by rw [h4, hcs], ?_⟩⟩, ⟨s1, s2, s3, by rw [s4]; exact Nat.le_refl _, fun k _ hk => setCells_far news _ k (fun e => hk (by simp [Value.ownBlock, e]))⟩, Or.inl rfl⟩
      · by_cases hm : m = 0
        · have hnl := hnil hm
          subst hm
          rw [hnl] at hst ⊢
          simp [Builtin.append_, run_underlying ht, run_underlying hti, sizeOf, typeInfo, hi, asInt, asIntOf, hw0, hnc, add_plain, hst]
        · have hmz : ¬ (m * i.size = 0) := Nat.mul_ne_zero hm hsn
          simp [Builtin.append_, run_underlying ht, run_underlying hti, sizeOf, typeInfo, zeroValue, hi, hz, asInt, asIntOf, hw, hneg, hbig, hroom, hmz, hna, add_plain, hst]
      · rw [h5]
        have h6 : cur.toList.take (n * i.size) = xs := htake
        rw [h6, ← hlen]
        exact List.take_left
    · have holds : ∀ j u, xs[j]? = some u → w.cell? ((⟨g, 0, none⟩ : Addr).add j) = some u := hown.cells (g := g) rfl
      have hgr := grown cap (by omega) (Value.ownBlock (.slice (some ⟨g, 0, none⟩) n cap))
      exact ⟨_, _, runs (some ⟨g, 0, none⟩) cap (by omega) (run_firstCells_some (P := P) w.drew i.size n _ n cap xs hown.1 (by simpa using holds)), hgr.1, hgr.2, Or.inr rfl⟩
end

section
variable {X : Cfg} {ops : Array Oper} {rest : List Oper} {o : Oper} {ds : List Deferred} {L : Env} {M : List Res} {K : Kont} {d : Nat}
/-- append(v, make([]T, m)...), v a row of one's own, items of one cell. -/
theorem J.appzr (k : Nat) {t tn e : TypeId} {bytes n : Nat} {z : Value} {x y : Operand} {v : Value} {kx kn : IntKind} {i : Int} {xs : List Value} (m : Nat) (ho : o.op = .call { callee := .builtin .append, args := #[x, y], argTypes := #[t, tn] }) (hg : o.guard = none) (hd : o.dst = some d) (hN : Nat.blt d X.N = true) (hx : evl L x = some v) (hy : evl L y = some (.int kx i)) (hi : i = (m : Int))
    (ht : X.P.underlying t = some (.slice e)) (htn : X.P.underlying tn = some (.int kn)) (hinfo : (X.P.info? e).map (fun i => (i.zero, i.size, i.bytes)) = some (some z, 1, bytes)) (hz : z.cells = #[z]) (hz1 : z.oneCell' = true) (hby : Nat.blt 0 bytes = true) (hk : M[k]? = some (rowR e 1 v n xs)) (hbytes : (n + m) * bytes ≤ 140737488355328)
    (h : ∀ v', J X ops rest ds ((d, v') :: L) (M.set k (rowR e 1 v' (n + m) (xs ++ List.replicate m z))) K) : J X ops (o :: rest) ds L M K := by
  intro Q hQ a w ha hw
  subst hi
  obtain ⟨i0, hi, hzz⟩ := Option.map_eq_some_iff.1 hinfo
  simp only [Prod.mk.injEq] at hzz
  obtain ⟨hz0, hzs, hz2⟩ := hzz
  have hzc : (Builtin.zeroCells z.cells m).toList = List.replicate m z := by
    rw [hz]
    unfold Builtin.zeroCells
    apply List.ext_getElem
    · simp
    · intro j h1 h2
      simp [Nat.mod_one]
  obtain ⟨v', w', hr, h2, h3, h5⟩ := run_append_zeros (P := X.P) w 0 t tn o.type e i0 z 1 bytes ht htn hi hz0 hzs hz2 (by rw [hz]; rfl) (by omega) (by simpa [Nat.blt_eq] using hby) v n xs (hw.get k hk) kx m (fun u hu => by rw [hzc] at hu; rw [(List.mem_replicate.1 hu).2]; exact hz1) hbytes (Nat.zero_le _)
  rw [hzc] at h2
  refine wpl_val (v := v') (w' := w') hg (by simp [ho]) ?_ (h v' Q hQ _ _ (ha.putd hd hN v') ?_)
  · unfold execOp; rw [ho]
    simp only [resolve, invoke, builtin, List.map_toArray, List.map_cons, List.map_nil, ha.eval hx, ha.eval hy, Sem.run_bind, Sem.run_pure, Result.andThen, hr]
  · have hfr := hw.front k hk
    have := St.change (r' := rowR e 1 v' (n + m) (xs ++ List.replicate m z)) hfr h3.os h3.tape h3.output h3.size (fun b hb hne => h3.block b hb (fun e => hne e.symm)) h2 (fun b hb => ?_)
    · exact this.perm (set_perm M k hk).symm
    · rcases h5 with h5 | h5
      · exact .inl (h5.symm.trans (show v'.ownBlock = some b from hb))
      · right
        have : w.heap.size = b := by
          have hb' : v'.ownBlock = some b := hb
          rw [h5] at hb'; exact Option.some.inj hb'
        subst this
        exact ⟨Nat.le_refl _, (h2.lt _ h5).2⟩
end
end Go.Proofs.YtiminmnmeknioaaGreatDoor
/- The page's points as octets. -/
set_option linter.unusedVariables false
namespace Go.Proofs.YtiminmnmeknioaaGreatDoor
open Go Go.RowKit

theorem rEncode_pt_calls (w : World) (p : Pt) (dv : Value) (hx : BA w dv p.dt) (hl : p.dt.length ≤ 140737488355328) : Calls Tryz.prog 11 #[.agg #[vi p.ep, vi p.sq, vi p.vw, vi p.cm, dv]] w (Ret w (PBE (ptEnc p).1 (ptEnc p).2)) := by
  have hx0 := hx
  obtain ⟨A, c, rfl, h1, h2, h3⟩ := hx.form
  refine calls_of_C Tryz.func11 rfl Tryz.ntmps11 (Nat.le_of_ble_eq_true rfl) ?_
  refine C.less (L' := [(0, _)]) ?_ (Sub.cons rfl (Sub.nil _)) (fun w h => h)
  refine C.seq ?_
  refine C.region ?_
  first | refine J.boxc rfl rfl rfl rfl rfl rfl (fun b1 => ?_) | refine J.box rfl rfl rfl rfl rfl (fun b1 => ?_)
  refine J.asg rfl rfl rfl rfl rfl ?_
  refine J.asg rfl rfl rfl rfl rfl ?_
  refine J.nil ?_
  refine C.seq ?_
  refine C.region ?_
  refine J.ldw 0 rfl rfl rfl rfl rfl Tryz.isAgg24 rfl Tryz.sizeOf24 ?_
  refine J.call0 rfl rfl rfl rfl rfl Tryz.call18 (fun w h => rCheck_pt_calls w p A c (by omega)) ?_
  refine J.asg rfl rfl rfl rfl rfl ?_
  refine J.nil ?_
  refine C.seq ?_
  refine C.seq ?_
  refine C.region ?_
  refine J.move rfl rfl rfl rfl rfl ?_
  refine J.bin rfl rfl rfl rfl rfl rfl (fun w => rfl) ?_
  refine J.nil ?_
  refine C.cond rfl (fun he => ?_) (fun he => ?_)
  · have he' : ptErr p ≠ 0 := by simpa using he
    have e : ptEnc p = ([], ptErr p) := by unfold ptEnc; rw [if_neg he']
    rw [e]
    refine C.seq ?_
    refine C.region ?_
    refine J.move rfl rfl rfl rfl rfl ?_
    refine J.asg rfl rfl rfl rfl rfl ?_
    refine J.asg rfl rfl rfl rfl rfl ?_
    refine J.nil ?_
    refine C.ret ?_
    exact fin2 rfl (RV.tmp rfl) (RV.tmp rfl) (fun w' h => retNilBE h)
  · have he' : ptErr p = 0 := by simpa using he
    have e : ptEnc p = (ptReg p, 0) := by unfold ptEnc; rw [if_pos he']
    have hre := ptRec_eq he'
    rw [e]
    refine C.skip ?_
    refine C.seq ?_
    refine C.region ?_
    refine J.fld (k := 0) rfl rfl rfl rfl rfl Tryz.runUnderlying24 rfl rfl Tryz.sizeOf3 ?_
    refine J.ldo 0 rfl rfl rfl rfl rfl Tryz.isAgg3 rfl rfl ?_
    refine J.fld (k := 1) rfl rfl rfl rfl rfl Tryz.runUnderlying24 rfl rfl Tryz.sizeOf3 ?_
    refine J.ldo 0 rfl rfl rfl rfl rfl Tryz.isAgg3 rfl rfl ?_
    refine J.fld (k := 2) rfl rfl rfl rfl rfl Tryz.runUnderlying24 rfl rfl Tryz.sizeOf3 ?_
    refine J.ldo 0 rfl rfl rfl rfl rfl Tryz.isAgg3 rfl rfl ?_
    refine J.fld (k := 3) rfl rfl rfl rfl rfl Tryz.runUnderlying24 rfl rfl Tryz.sizeOf3 ?_
    refine J.ldo 0 rfl rfl rfl rfl rfl Tryz.isAgg3 rfl rfl ?_
    refine J.blds (vs := [_, _, _, _]) (cells := [_, _, _, _]) rfl rfl rfl rfl rfl Tryz.zeroValue3 Tryz.runUnderlying73 Tryz.sizeOf3 rfl rfl rfl rfl (fun b23 => ?_)
    refine J.fld (k := 4) rfl rfl rfl rfl rfl Tryz.runUnderlying24 rfl rfl Tryz.sizeOf22 ?_
    refine J.ldo 1 rfl rfl rfl rfl rfl Tryz.isAgg22 rfl rfl ?_
    refine J.blds (vs := [_]) (cells := [_]) rfl rfl rfl rfl rfl Tryz.zeroValue22 Tryz.runUnderlying44 Tryz.sizeOf22 rfl rfl rfl rfl (fun b26 => ?_)
    refine J.bld (pl := #[(0, 1), (1, 1), (2, 1)]) (cells := #[_, _, _]) rfl rfl rfl rfl rfl Tryz.zeroValue79 Tryz.runUnderlying79 (fun w => by kernel_rfl) rfl ?_
    refine J.callr rfl rfl rfl rfl rfl Tryz.call36 (fun w h => rEncode_calls w 7 _ _ p.nums [p.dt] (ia4 h 1 rfl) (bsa1 h 0 rfl (h.ba hx0)) (okI he') (by simp [Pt.nums]) (by simp) (by simp; omega))  ?_
    rintro v28 r28 ⟨A22, c22, fp22, hA22, hc22, rfl, rfl⟩
    refine J.move rfl rfl rfl rfl rfl ?_
    refine J.ext rfl rfl rfl rfl rfl rfl ?_
    refine J.ext rfl rfl rfl rfl rfl rfl ?_
    refine J.asg rfl rfl rfl rfl rfl ?_
    refine J.asg rfl rfl rfl rfl rfl ?_
    refine J.nil ?_
    refine C.seq ?_
    refine C.region ?_
    refine J.move rfl rfl rfl rfl rfl ?_
    refine J.blds (vs := [_]) (cells := [_]) rfl rfl rfl rfl rfl Tryz.zeroValue22 Tryz.runUnderlying44 Tryz.sizeOf22 rfl rfl rfl rfl (fun b33 => ?_)
    rw [hre.1]
    refine J.callr rfl rfl rfl rfl rfl Tryz.call37 (fun w h => rJoin_calls w _ [ptRec p] (bsa1 h 0 rfl (h.rb 1 rfl)))  ?_
    rintro v34 r34 ⟨u, rfl, rfl⟩
    rw [joined_one (by omega)]
    dsimp only
    have hjl : (be2 (ptRec p).length ++ ptRec p).length ≤ 512 := by simp [be2]; omega
    refine J.fact (fun w h => row_form (h.get 0 rfl)) ?_
    rintro ⟨Au, cu, rfl, -, -⟩
    refine J.move rfl rfl rfl rfl rfl ?_
    refine J.ext rfl rfl rfl rfl rfl rfl ?_
    refine J.ext rfl rfl rfl rfl rfl rfl ?_
    refine J.asg rfl rfl rfl rfl rfl ?_
    refine J.asg rfl rfl rfl rfl rfl ?_
    refine J.nil ?_
    refine C.seq ?_
    refine C.region ?_
    refine J.move rfl rfl rfl rfl rfl ?_
    refine J.move rfl rfl rfl rfl rfl ?_
    refine J.len rfl rfl rfl rfl rfl Tryz.runUnderlying22 ?_
    refine J.bin rfl rfl rfl rfl rfl rfl (fun w => ra_sub (by omega)) ?_
    refine J.appzr 0 (512 - (be2 (ptRec p).length ++ ptRec p).length) rfl rfl rfl rfl rfl rfl (by omega) Tryz.underlying22 Tryz.underlying3 inf5 rfl rfl rfl rfl (by omega) (fun v41 => ?_)
    refine J.asg rfl rfl rfl rfl rfl ?_
    refine J.asg rfl rfl rfl rfl rfl ?_
    refine J.nil ?_
    refine C.ret ?_
    refine fin2 rfl (RV.tmp rfl) (RV.tmp rfl) (fun w' h => ?_)
    have h2 := row_rb (xs := ptReg p) h (by rw [ptReg_pad hre.2, List.map_append (l₂ := List.replicate _ _), List.map_replicate]; rfl)
    have h3 := retRbE (e := 0) h2 0 rfl
    exact h3
end Go.Proofs.YtiminmnmeknioaaGreatDoor

/- Octets as points: what it comes to. -/
set_option linter.unusedVariables false
namespace Go.Proofs.YtiminmnmeknioaaGreatDoor
open Go Go.RowKit

theorem pG_ne (xs : List UInt8) : ∀ (n a : Nat) (e : Int), pG xs n a = .error e → e ≠ 0 := by
  induction xs with
  | nil => intro n a e h; unfold pG at h; injection h with h; omega
  | cons x xs ih =>
    intro n a e h
    rw [pG_cons] at h
    split at h
    · injection h with h; omega
    · split at h
      · cases h
      · exact ih _ _ _ h
theorem pCount_ne {m : Nat} {xs : List UInt8} {e : Int} (h : pCount m xs = .error e) : e ≠ 0 := by
  cases xs with
  | nil => unfold pCount at h; injection h with h; omega
  | cons x xs =>
    simp only [pCount] at h
    split at h
    · injection h with h; omega
    · cases h
theorem pTake_ne {m : Nat} {xs : List UInt8} {e : Int} (h : pTake m xs = .error e) : e ≠ 0 := by
  unfold pTake at h
  split at h
  · injection h with h; omega
  · cases h
theorem pOctet_ne {xs : List UInt8} {e : Int} (h : pOctet xs = .error e) : e ≠ 0 := by
  cases xs with
  | nil => unfold pOctet at h; injection h with h; omega
  | cons x xs => cases h
theorem pText_ne {xs : List UInt8} {e : Int} (h : pText xs = .error e) : e ≠ 0 := by
  unfold pText at h
  rcases excp (pG xs 0 0) with ⟨e2, he⟩ | ⟨m, r, he⟩
  · rw [he] at h; injection h with h; subst h; exact pG_ne _ _ _ _ he
  · rw [he] at h
    dsimp only at h
    split at h
    · injection h with h; omega
    · exact pTake_ne h
theorem pNumsL_ne (k : Nat) : ∀ (acc : List Int) (xs : List UInt8) (e : Int), pNumsL k acc xs = .error e → e ≠ 0 := by
  induction k with
  | zero => intro acc xs e h; cases h
  | succ k ih =>
    intro acc xs e h
    rcases excp (pG xs 0 0) with ⟨e2, he⟩ | ⟨m, r, he⟩
    · rw [pNumsL_err he] at h; injection h with h; subst h; exact pG_ne _ _ _ _ he
    · rw [pNumsL_ok he] at h; exact ih _ _ _ h
theorem pTextsL_ne (k : Nat) : ∀ (acc : List (List UInt8)) (xs : List UInt8) (e : Int), pTextsL k acc xs = .error e → e ≠ 0 := by
  induction k with
  | zero => intro acc xs e h; cases h
  | succ k ih =>
    intro acc xs e h
    rcases excp (pText xs) with ⟨e2, he⟩ | ⟨m, r, he⟩
    · rw [pTextsL_err he] at h; injection h with h; subst h; exact pText_ne he
    · rw [pTextsL_ok he] at h; exact ih _ _ _ h
theorem pRec_ne {xs : List UInt8} {e : Int} (h : pRec xs = .error e) : e ≠ 0 := by
  rcases excp (pOctet xs) with ⟨e2, he⟩ | ⟨m, r, he⟩
  · rw [pRec_err he] at h; injection h with h; subst h; exact pOctet_ne he
  · rw [pRec_ok he] at h
    rcases excp (pNums r) with ⟨e2, he2⟩ | ⟨ns, r2, he2⟩
    · rw [he2] at h
      injection h with h; subst h
      rcases excp (pCount 64 r) with ⟨e3, he3⟩ | ⟨n, r3, he3⟩
      · rw [pNums_err he3] at he2; injection he2 with he2; subst he2; exact pCount_ne he3
      · rw [pNums_ok he3] at he2; exact pNumsL_ne _ _ _ _ he2
    · rw [he2] at h
      have h : contT (m : Int) ns (pTexts r2) = .error e := h
      rcases excp (pTexts r2) with ⟨e2, he3⟩ | ⟨ts, r3, he3⟩
      · rw [he3] at h
        injection h with h; subst h
        rcases excp (pCount 64 r2) with ⟨e3, he4⟩ | ⟨n, r4, he4⟩
        · rw [pTexts_err he4] at he3; injection he3 with he3; subst he3; exact pCount_ne he4
        · rw [pTexts_ok he4] at he3; exact pTextsL_ne _ _ _ _ he3
      · rw [he3] at h
        simp only [contT] at h
        split at h
        · injection h with h; omega
        · cases h
theorem decRec_ne {xs : List UInt8} {e : Int} (h : decRec xs = .error e) : e ≠ 0 := by
  unfold decRec at h
  split at h
  · rename_i h1; injection h with h; subst h; exact h1
  · exact pRec_ne h

def ptOfRec (tail : Bool) : Except Int Rec → Pt × Int
  | .error e => (ptZero, e)
  | .ok (k, ns, ts) => if k ≠ 7 then (ptZero, 22) else match ns, ts with
    | [a, b, c, d], [t] => if ptErr ⟨a, b, c, d, t⟩ ≠ 0 then (ptZero, ptErr ⟨a, b, c, d, t⟩) else if tail then (ptZero, 23) else (⟨a, b, c, d, t⟩, 0)
    | _, _ => (ptZero, 3)
/-- A point read from octets. -/
def ptDec (xs : List UInt8) : Pt × Int := match xs with
  | x0 :: x1 :: r => if r.length ≠ 510 then (ptZero, 3) else if x0.toNat * 256 + x1.toNat > 510 then (ptZero, 5)
    else ptOfRec (decide (¬ all0 (r.drop (x0.toNat * 256 + x1.toNat)))) (decRec (r.take (x0.toNat * 256 + x1.toNat)))
  | _ => (ptZero, 3)
def PPt (p : Pt) (e : Int) : Value → Res → Prop := fun v r => ∃ A c fp, v = .tuple #[.agg #[vi p.ep, vi p.sq, vi p.vw, vi p.cm, .slice A p.dt.length c], vi e] ∧ r = rbR fp (.slice A p.dt.length c) p.dt
theorem retPtZ {w w' : World} {M : List Res} {e : Int} (h : St No w M w') : Ret w (PPt ptZero e) (.returned (.tuple #[.agg #[vi 0, vi 0, vi 0, vi 0, .slice none 0 0], vi e])) w' :=
  (nilRb h).ret 0 rfl ⟨none, 0, _, rfl, rfl⟩
theorem or_shl' (a b n : Nat) (h : a < 2 ^ n) : b * 2 ^ n ||| a = b * 2 ^ n + a := by rw [Nat.or_comm, or_shl a b n h, Nat.add_comm]
end Go.Proofs.YtiminmnmeknioaaGreatDoor

/- Octets as points: the walk. -/
set_option linter.unusedVariables false
namespace Go.Proofs.YtiminmnmeknioaaGreatDoor
open Go Go.RowKit

theorem len2 {xs : List UInt8} (h : xs.length = 512) : ∃ x0 x1 r, xs = x0 :: x1 :: r ∧ r.length = 510 := by
  match xs, h with
  | x0 :: x1 :: r, h => exact ⟨x0, x1, r, rfl, by simpa using h⟩
theorem ptDec_len {xs : List UInt8} (h : xs.length ≠ 512) : ptDec xs = (ptZero, 3) := by
  match xs, h with
  | [], _ => rfl
  | [x], _ => rfl
  | x0 :: x1 :: r, h => unfold ptDec; dsimp only; rw [if_pos (by simpa using h)]
theorem ptDec_long {x0 x1 : UInt8} {r : List UInt8} (h : r.length = 510) (h2 : x0.toNat * 256 + x1.toNat > 510) : ptDec (x0 :: x1 :: r) = (ptZero, 5) := by
  unfold ptDec; dsimp only; rw [if_neg (by omega), if_pos h2]
theorem ptDec_go {x0 x1 : UInt8} {r : List UInt8} (h : r.length = 510) (h2 : ¬ x0.toNat * 256 + x1.toNat > 510) : ptDec (x0 :: x1 :: r) = ptOfRec (decide (¬ all0 (r.drop (x0.toNat * 256 + x1.toNat)))) (decRec (r.take (x0.toNat * 256 + x1.toNat))) := by
  unfold ptDec; dsimp only; rw [if_neg (by omega), if_neg h2]

theorem ptOfRec_cnt {b : Bool} {ns : List Int} {ts : List (List UInt8)} (h : ns.length ≠ 4 ∨ ts.length ≠ 1) : ptOfRec b (.ok (7, ns, ts)) = (ptZero, 3) := by
  unfold ptOfRec
  dsimp only
  rw [if_neg (by simp)]
  split
  · simp at h
  · rfl
theorem len4 {ns : List Int} (h : ns.length = 4) : ∃ a b c d, ns = [a, b, c, d] := by
  match ns, h with
  | [a, b, c, d], _ => exact ⟨a, b, c, d, rfl⟩
theorem Decode_pt_calls (w : World) (v : Value) (xs : List UInt8) (hx : BA w v xs) (hl : xs.length ≤ 140737488355328) (hg : ErrTy w) : Calls Tryz.prog 12 #[v] w (Ret w (PPt (ptDec xs).1 (ptDec xs).2)) := by
  have hx0 := hx
  obtain ⟨A, c, rfl, h1, h2, h3⟩ := hx.form
  refine calls_of_C Tryz.func12 rfl Tryz.ntmps12 (Nat.le_of_ble_eq_true rfl) ?_
  refine C.less (L' := [(0, _)]) ?_ (Sub.cons rfl (Sub.nil _)) (fun w h => h)
  refine C.seq ?_
  refine C.region ?_
  refine J.allocc rfl rfl rfl rfl Tryz.zeroValue25 rfl (fun b2 => ?_)
  refine J.asg rfl rfl rfl rfl rfl ?_
  refine J.nil ?_
  refine C.seq ?_
  refine C.seq ?_
  refine C.region ?_
  refine J.move rfl rfl rfl rfl rfl ?_
  refine J.len rfl rfl rfl rfl rfl Tryz.runUnderlying22 ?_
  refine J.bin rfl rfl rfl rfl rfl rfl (fun w => rfl) ?_
  refine J.nil ?_
  refine C.cond rfl (fun h => ?_) (fun h => ?_)
  · have h : xs.length ≠ 512 := by simp at h; omega
    rw [ptDec_len h]
    refine C.seq ?_
    refine C.region ?_
    refine J.bld (pl := #[(0, 1), (1, 1), (2, 1), (3, 1), (4, 1)]) (cells := #[_, _, _, _, _]) rfl rfl rfl rfl rfl Tryz.zeroValue25 Tryz.runUnderlying25 (fun w => by kernel_rfl) rfl ?_
    first | refine J.stwc 0 rfl rfl rfl rfl rfl rfl Tryz.sizeOf25 (by first | rfl | assumption | simp [Value.cells, Value.oneCell']) rfl rfl ?_ | refine J.stw 0 rfl rfl rfl rfl rfl rfl Tryz.sizeOf25 (by first | rfl | assumption | simp [Value.cells, Value.oneCell']) rfl rfl ?_
    refine J.asg rfl rfl rfl rfl rfl ?_
    refine J.nil ?_
    refine C.ret ?_
    exact fin2 rfl (RV.cellw 0 rfl Tryz.isAgg25 rfl Tryz.sizeOf25) (RV.tmp rfl) (fun w' h => retPtZ h)
  · have h : xs.length = 512 := by simp at h; omega
    obtain ⟨x0, x1, r, rfl, hr5⟩ := len2 h
    obtain ⟨b, o, rfl, hb, hc⟩ := h3 (by simp)
    have hc0 := hc 0 x0 rfl
    have hc1 := hc 1 x1 rfl
    have hx0l := x0.toNat_lt
    have hx1l := x1.toNat_lt
    refine C.skip ?_
    refine C.seq ?_
    refine C.regionD0 12 (by kernel_rfl) ?_
    refine JD.take 0 rfl rfl rfl rfl (by kernel_rfl) (fun w h => h) (R.move rfl rfl) ?_
    refine JD.take 1 rfl rfl rfl rfl (by kernel_rfl) (fun w h => h) (by first | exact (R.idx1 rfl rfl rfl Tryz.runUnderlying22 Tryz.sizeOf5 (by omega)) | exact (R.idx rfl rfl rfl Tryz.runUnderlying22 Tryz.sizeOf5 (by omega))) ?_
    refine JD.take 5 rfl rfl rfl rfl (by kernel_rfl) (fun w h => h) (R.move rfl rfl) ?_
    refine JD.take 6 rfl rfl rfl rfl (by kernel_rfl) (fun w h => h) (by first | exact (R.idx1 rfl rfl rfl Tryz.runUnderlying22 Tryz.sizeOf5 (by omega)) | exact (R.idx rfl rfl rfl Tryz.runUnderlying22 Tryz.sizeOf5 (by omega))) ?_
    refine JD.take 2 rfl rfl rfl rfl (by kernel_rfl) (fun w h => h) (R.ld rfl rfl Tryz.isAgg5 (fun w h => cellOld h hc0)) ?_
    refine JD.take 3 rfl rfl rfl rfl (by kernel_rfl) (fun w h => h) (R.conv rfl rfl Tryz.runUnderlying5 Tryz.runUnderlying3 (by first | exact cw_u8_i64 _ | exact IntWalk.i64_in _ (by omega))) ?_
    refine JD.take 7 rfl rfl rfl rfl (by kernel_rfl) (fun w h => h) (R.ld rfl rfl Tryz.isAgg5 (fun w h => cellOld h hc1)) ?_
    refine JD.take 8 rfl rfl rfl rfl (by kernel_rfl) (fun w h => h) (R.conv rfl rfl Tryz.runUnderlying5 Tryz.runUnderlying3 (by first | exact cw_u8_i64 _ | exact IntWalk.i64_in _ (by omega))) ?_
    refine JD.step 4 rfl (by kernel_rfl) ?_
    refine J.bin rfl rfl rfl rfl rfl rfl (fun w => shl_nat_i64 _ 8 (by omega) (by omega)) ?_
    refine J.nil ⟨(fun _ w h => h), ?_⟩
    refine JD.step 9 rfl (by kernel_rfl) ?_
    refine J.bin rfl rfl rfl rfl rfl rfl (fun w => or_i64 _ _ (by omega) (by omega)) ?_
    rw [or_shl' _ _ 8 (by omega)]
    refine J.nil ⟨(fun _ w h => h), ?_⟩
    refine JD.take 10 rfl rfl rfl rfl (by kernel_rfl) (fun w h => h) (R.bin rfl rfl rfl (fun w => ra_add (by omega))) ?_
    refine JD.take 11 rfl rfl rfl rfl (by kernel_rfl) (fun w h => h) (R.asg rfl rfl) ?_
    refine JD.done (by kernel_rfl) ?_
    refine C.seq ?_
    refine C.seq ?_
    refine C.region ?_
    refine J.move rfl rfl rfl rfl rfl ?_
    refine J.bin rfl rfl rfl rfl rfl rfl (fun w => rfl) ?_
    refine J.nil ?_
    refine C.cond rfl (fun h5 => ?_) (fun h5 => ?_)
    · have h5 : x0.toNat * 256 + x1.toNat > 510 := by have := of_decide_eq_true h5; omega
      rw [ptDec_long hr5 h5]
      refine C.seq ?_
      refine C.region ?_
      refine J.bld (pl := #[(0, 1), (1, 1), (2, 1), (3, 1), (4, 1)]) (cells := #[_, _, _, _, _]) rfl rfl rfl rfl rfl Tryz.zeroValue25 Tryz.runUnderlying25 (fun w => by kernel_rfl) rfl ?_
      first | refine J.stwc 0 rfl rfl rfl rfl rfl rfl Tryz.sizeOf25 (by first | rfl | assumption | simp [Value.cells, Value.oneCell']) rfl rfl ?_ | refine J.stw 0 rfl rfl rfl rfl rfl rfl Tryz.sizeOf25 (by first | rfl | assumption | simp [Value.cells, Value.oneCell']) rfl rfl ?_
      refine J.asg rfl rfl rfl rfl rfl ?_
      refine J.nil ?_
      refine C.ret ?_
      exact fin2 rfl (RV.cellw 0 rfl Tryz.isAgg25 rfl Tryz.sizeOf25) (RV.tmp rfl) (fun w' h => retPtZ h)
    · have h5 : ¬ x0.toNat * 256 + x1.toNat > 510 := by have := of_decide_eq_false h5; omega
      rw [ptDec_go hr5 h5]
      generalize hN : x0.toNat * 256 + x1.toNat = N at h5 ⊢
      have hlen : (x0 :: x1 :: r).length = r.length + 2 := rfl
      refine C.skip ?_
      refine C.seq ?_
      refine C.region ?_
      refine J.move rfl rfl rfl rfl rfl ?_
      refine J.move rfl rfl rfl rfl rfl ?_
      refine J.slc (l1 := some _) (h1 := some _) (m1 := none) rfl rfl rfl rfl rfl rfl rfl rfl (slc_lh Tryz.underlying22 Tryz.sizeOf5 (by omega) (by omega) (by omega)) ?_
      refine J.callrl rfl rfl rfl rfl rfl Tryz.call38 (fun w h => Decode_calls w _ (r.take N) (SubV.cut (xs := x0 :: x1 :: r) (2 : Int) (2 + (N : Int)) 2 N rfl (by omega) (by omega) _ _ (h.ba hx0)) (by rw [List.length_take]; omega) (h.err hg))  ?_
      rintro v31 R31 hp
      rcases exc (decRec (r.take N)) with ⟨e, he⟩ | ⟨⟨k, ns, ts⟩, he⟩
      · have hne := decRec_ne he
        rw [he] at hp ⊢
        obtain ⟨rfl, rfl⟩ := hp
        refine J.move rfl rfl rfl rfl rfl ?_
        refine J.ext rfl rfl rfl rfl rfl rfl ?_
        refine J.ext rfl rfl rfl rfl rfl rfl ?_
        refine J.allocc rfl rfl rfl rfl Tryz.zeroValue76 rfl (fun b5 => ?_)
        first | refine J.stwc 0 rfl rfl rfl rfl rfl rfl Tryz.sizeOf76 (by first | rfl | assumption | simp [Value.cells, Value.oneCell']) rfl rfl ?_ | refine J.stw 0 rfl rfl rfl rfl rfl rfl Tryz.sizeOf76 (by first | rfl | assumption | simp [Value.cells, Value.oneCell']) rfl rfl ?_
        refine J.asg rfl rfl rfl rfl rfl ?_
        refine J.nil ?_
        refine C.seq ?_
        refine C.block ?_
        refine C.seq ?_
        refine C.region ?_
        refine J.move rfl rfl rfl rfl rfl ?_
        refine J.bin rfl rfl rfl rfl rfl rfl (fun w => rfl) ?_
        refine J.asg rfl rfl rfl rfl rfl ?_
        refine J.nil ?_
        rw [show (e != 0) = true by simpa using hne]
        refine C.cond_t rfl ?_
        refine C.seq ?_
        refine C.region ?_
        refine J.bld (pl := #[(0, 1), (1, 1), (2, 1), (3, 1), (4, 1)]) (cells := #[_, _, _, _, _]) rfl rfl rfl rfl rfl Tryz.zeroValue25 Tryz.runUnderlying25 (fun w => by kernel_rfl) rfl ?_
        refine J.move rfl rfl rfl rfl rfl ?_
        first | refine J.stwc 1 rfl rfl rfl rfl rfl rfl Tryz.sizeOf25 (by first | rfl | assumption | simp [Value.cells, Value.oneCell']) rfl rfl ?_ | refine J.stw 1 rfl rfl rfl rfl rfl rfl Tryz.sizeOf25 (by first | rfl | assumption | simp [Value.cells, Value.oneCell']) rfl rfl ?_
        refine J.asg rfl rfl rfl rfl rfl ?_
        refine J.nil ?_
        refine C.ret ?_
        exact fin2 rfl (RV.cellw 1 rfl Tryz.isAgg25 rfl Tryz.sizeOf25) (RV.tmp rfl) (fun w' h => retPtZ h)
      · rw [he] at hp ⊢
        obtain ⟨A1, c1, A2, c2, fp1, fp2, rfl, rfl⟩ := hp
        refine J.move rfl rfl rfl rfl rfl ?_
        refine J.ext rfl rfl rfl rfl rfl rfl ?_
        refine J.ext rfl rfl rfl rfl rfl rfl ?_
        refine J.allocc rfl rfl rfl rfl Tryz.zeroValue76 rfl (fun b5 => ?_)
        first | refine J.stwc 0 rfl rfl rfl rfl rfl rfl Tryz.sizeOf76 (by first | rfl | assumption | simp [Value.cells, Value.oneCell']) rfl rfl ?_ | refine J.stw 0 rfl rfl rfl rfl rfl rfl Tryz.sizeOf76 (by first | rfl | assumption | simp [Value.cells, Value.oneCell']) rfl rfl ?_
        refine J.asg rfl rfl rfl rfl rfl ?_
        refine J.nil ?_
        refine C.seq ?_
        refine C.block ?_
        refine C.seq ?_
        refine C.region ?_
        refine J.move rfl rfl rfl rfl rfl ?_
        refine J.bin rfl rfl rfl rfl rfl rfl (fun w => rfl) ?_
        refine J.asg rfl rfl rfl rfl rfl ?_
        refine J.nil ?_
        refine C.cond_f rfl ?_
        refine C.seq ?_
        refine C.region ?_
        refine J.fld (k := 0) rfl rfl rfl rfl rfl Tryz.runUnderlying76 rfl rfl Tryz.sizeOf3 ?_
        refine J.ldo 0 rfl rfl rfl rfl rfl Tryz.isAgg3 rfl rfl ?_
        refine J.bin rfl rfl rfl rfl rfl rfl (fun w => rfl) ?_
        refine J.asg rfl rfl rfl rfl rfl ?_
        refine J.nil ?_
        refine C.cond rfl (fun hk => ?_) (fun hk => ?_)
        · have hk : k ≠ 7 := by simpa using hk
          rw [show ptOfRec _ (.ok (k, ns, ts)) = (ptZero, 22) by unfold ptOfRec; dsimp only; rw [if_pos hk]]
          refine C.seq ?_
          refine C.region ?_
          refine J.bld (pl := #[(0, 1), (1, 1), (2, 1), (3, 1), (4, 1)]) (cells := #[_, _, _, _, _]) rfl rfl rfl rfl rfl Tryz.zeroValue25 Tryz.runUnderlying25 (fun w => by kernel_rfl) rfl ?_
          first | refine J.stwc 3 rfl rfl rfl rfl rfl rfl Tryz.sizeOf25 (by first | rfl | assumption | simp [Value.cells, Value.oneCell']) rfl rfl ?_ | refine J.stw 3 rfl rfl rfl rfl rfl rfl Tryz.sizeOf25 (by first | rfl | assumption | simp [Value.cells, Value.oneCell']) rfl rfl ?_
          refine J.asg rfl rfl rfl rfl rfl ?_
          refine J.nil ?_
          refine C.ret ?_
          exact fin2 rfl (RV.cellw 3 rfl Tryz.isAgg25 rfl Tryz.sizeOf25) (RV.tmp rfl) (fun w' h => retPtZ h)
        · have hk : k = 7 := by simpa using hk
          subst hk
          refine C.seq ?_
          refine C.region ?_
          refine J.fld (k := 1) rfl rfl rfl rfl rfl Tryz.runUnderlying76 rfl rfl Tryz.sizeOf73 ?_
          refine J.ldo 0 rfl rfl rfl rfl rfl Tryz.isAgg73 rfl rfl ?_
          refine J.len rfl rfl rfl rfl rfl Tryz.runUnderlying73 ?_
          refine J.bin rfl rfl rfl rfl rfl rfl (fun w => rfl) ?_
          refine J.move rfl rfl rfl rfl rfl ?_
          rcases Decidable.em (ns.length = 4) with h4 | h4
          · rw [show ((ns.length : Int) != 4) = false by simp; omega]
            refine J.want rfl rfl rfl rfl ?_
            refine J.fld (k := 2) rfl rfl rfl rfl rfl Tryz.runUnderlying76 rfl rfl Tryz.sizeOf44 ?_
            refine J.want rfl rfl rfl rfl ?_
            refine J.ldo 0 rfl rfl rfl rfl rfl Tryz.isAgg44 rfl rfl ?_
            refine J.want rfl rfl rfl rfl ?_
            refine J.len rfl rfl rfl rfl rfl Tryz.runUnderlying44 ?_
            refine J.want rfl rfl rfl rfl ?_
            refine J.bin rfl rfl rfl rfl rfl rfl (fun w => rfl) ?_
            refine J.pick rfl rfl rfl rfl rfl rfl ?_
            refine J.asg rfl rfl rfl rfl rfl ?_
            refine J.nil ?_
            refine C.cond rfl (fun h1 => ?_) (fun h1 => ?_)
            · have h1 : ts.length ≠ 1 := by simp at h1; omega
              rw [ptOfRec_cnt (.inr h1)]
              refine C.seq ?_
              refine C.region ?_
              refine J.bld (pl := #[(0, 1), (1, 1), (2, 1), (3, 1), (4, 1)]) (cells := #[_, _, _, _, _]) rfl rfl rfl rfl rfl Tryz.zeroValue25 Tryz.runUnderlying25 (fun w => by kernel_rfl) rfl ?_
              first | refine J.stwc 3 rfl rfl rfl rfl rfl rfl Tryz.sizeOf25 (by first | rfl | assumption | simp [Value.cells, Value.oneCell']) rfl rfl ?_ | refine J.stw 3 rfl rfl rfl rfl rfl rfl Tryz.sizeOf25 (by first | rfl | assumption | simp [Value.cells, Value.oneCell']) rfl rfl ?_
              refine J.asg rfl rfl rfl rfl rfl ?_
              refine J.nil ?_
              refine C.ret ?_
              exact fin2 rfl (RV.cellw 3 rfl Tryz.isAgg25 rfl Tryz.sizeOf25) (RV.tmp rfl) (fun w' h => retPtZ h)
            · have h1 : ts.length = 1 := by simp at h1; omega
              obtain ⟨a, b', c', d, rfl⟩ := len4 h4
              obtain ⟨t, rfl⟩ := List.length_eq_one_iff.1 h1
              refine C.fact (p := ∃ bn on, A1 = some ⟨bn, on, none⟩) (fun w h => by
                obtain ⟨A, c, hv, _, _, h3⟩ := RI.form (h.get 2 rfl)
                injection hv with e1 e2 e3
                obtain ⟨b, o, e, _⟩ := h3 (by simp)
                exact ⟨b, o, e1.trans e⟩) ?_
              rintro ⟨bn, on, rfl⟩
              refine C.ex (fun q : Nat × Nat × Option Addr × Nat × Nat => [cellB fp2 q.1 q.2.1 (.slice q.2.2.1 t.length q.2.2.2.2) t, blk b5 #[vi 7, .slice (some ⟨bn, on, none⟩) 4 c1, .slice A2 1 c2] 76, riR fp1 (.slice (some ⟨bn, on, none⟩) 4 c1) [a, b', c', d], blk b2 #[vi 0, vi 0, vi 0, vi 0, .slice none 0 0] 25]) _ (fun w h => (h.front 1 rfl).one_text) ?_
              rintro ⟨bt, ot, At, cc, ct⟩ ⟨hv, hct⟩
              dsimp only at hv hct ⊢
              injection hv with e1 e2 e3
              subst e1
              refine C.skip ?_
              refine C.seq ?_
              refine C.regionD0 22 (by kernel_rfl) ?_
              refine JD.take 0 rfl rfl rfl rfl (by kernel_rfl) (fun w h => h) (R.fld (k := 1) rfl rfl Tryz.runUnderlying76 rfl rfl Tryz.sizeOf73) ?_
              refine JD.take 1 rfl rfl rfl rfl (by kernel_rfl) (fun w h => h) (R.ld rfl rfl Tryz.isAgg73 (fun w h => cellL h 1 rfl rfl)) ?_
              refine JD.take 2 rfl rfl rfl rfl (by kernel_rfl) (fun w h => h) (by first | exact (R.idx1 rfl rfl rfl Tryz.runUnderlying73 Tryz.sizeOf3 (by omega)) | exact (R.idx rfl rfl rfl Tryz.runUnderlying73 Tryz.sizeOf3 (by omega))) ?_
              refine JD.take 4 rfl rfl rfl rfl (by kernel_rfl) (fun w h => h) (R.fld (k := 1) rfl rfl Tryz.runUnderlying76 rfl rfl Tryz.sizeOf73) ?_
              refine JD.take 5 rfl rfl rfl rfl (by kernel_rfl) (fun w h => h) (R.ld rfl rfl Tryz.isAgg73 (fun w h => cellL h 1 rfl rfl)) ?_
              refine JD.take 6 rfl rfl rfl rfl (by kernel_rfl) (fun w h => h) (by first | exact (R.idx1 rfl rfl rfl Tryz.runUnderlying73 Tryz.sizeOf3 (by omega)) | exact (R.idx rfl rfl rfl Tryz.runUnderlying73 Tryz.sizeOf3 (by omega))) ?_
              refine JD.take 8 rfl rfl rfl rfl (by kernel_rfl) (fun w h => h) (R.fld (k := 1) rfl rfl Tryz.runUnderlying76 rfl rfl Tryz.sizeOf73) ?_
              refine JD.take 9 rfl rfl rfl rfl (by kernel_rfl) (fun w h => h) (R.ld rfl rfl Tryz.isAgg73 (fun w h => cellL h 1 rfl rfl)) ?_
              refine JD.take 10 rfl rfl rfl rfl (by kernel_rfl) (fun w h => h) (by first | exact (R.idx1 rfl rfl rfl Tryz.runUnderlying73 Tryz.sizeOf3 (by omega)) | exact (R.idx rfl rfl rfl Tryz.runUnderlying73 Tryz.sizeOf3 (by omega))) ?_
              refine JD.take 12 rfl rfl rfl rfl (by kernel_rfl) (fun w h => h) (R.fld (k := 1) rfl rfl Tryz.runUnderlying76 rfl rfl Tryz.sizeOf73) ?_
              refine JD.take 13 rfl rfl rfl rfl (by kernel_rfl) (fun w h => h) (R.ld rfl rfl Tryz.isAgg73 (fun w h => cellL h 1 rfl rfl)) ?_
              refine JD.take 14 rfl rfl rfl rfl (by kernel_rfl) (fun w h => h) (by first | exact (R.idx1 rfl rfl rfl Tryz.runUnderlying73 Tryz.sizeOf3 (by omega)) | exact (R.idx rfl rfl rfl Tryz.runUnderlying73 Tryz.sizeOf3 (by omega))) ?_
              refine JD.take 16 rfl rfl rfl rfl (by kernel_rfl) (fun w h => h) (R.fld (k := 2) rfl rfl Tryz.runUnderlying76 rfl rfl Tryz.sizeOf44) ?_
              refine JD.take 17 rfl rfl rfl rfl (by kernel_rfl) (fun w h => h) (R.ld rfl rfl Tryz.isAgg44 (fun w h => cellL h 1 rfl rfl)) ?_
              refine JD.take 18 rfl rfl rfl rfl (by kernel_rfl) (fun w h => h) (by first | exact (R.idx1 rfl rfl rfl Tryz.runUnderlying44 Tryz.sizeOf22 (by omega)) | exact (R.idx rfl rfl rfl Tryz.runUnderlying44 Tryz.sizeOf22 (by omega))) ?_
              refine JD.take 3 rfl rfl rfl rfl (by kernel_rfl) (fun w h => h) (R.ld rfl rfl Tryz.isAgg3 (fun w h => RI.at_ (h.get 2 rfl) (j := 0) rfl)) ?_
              refine JD.take 7 rfl rfl rfl rfl (by kernel_rfl) (fun w h => h) (R.ld rfl rfl Tryz.isAgg3 (fun w h => RI.at_ (h.get 2 rfl) (j := 1) rfl)) ?_
              refine JD.take 11 rfl rfl rfl rfl (by kernel_rfl) (fun w h => h) (R.ld rfl rfl Tryz.isAgg3 (fun w h => RI.at_ (h.get 2 rfl) (j := 2) rfl)) ?_
              refine JD.take 15 rfl rfl rfl rfl (by kernel_rfl) (fun w h => h) (R.ld rfl rfl Tryz.isAgg3 (fun w h => RI.at_ (h.get 2 rfl) (j := 3) rfl)) ?_
              refine JD.take 19 rfl rfl rfl rfl (by kernel_rfl) (fun w h => h) (R.ld rfl rfl Tryz.isAgg22 (fun w h => (h.get 0 rfl).2.1)) ?_
              refine JD.take 20 rfl rfl rfl rfl (by kernel_rfl) (fun w h => h) (R.bld (pl := #[(0, 1), (1, 1), (2, 1), (3, 1), (4, 1)]) (cells := #[_, _, _, _, _]) rfl rfl Tryz.zeroValue25 Tryz.runUnderlying25 (fun w => by kernel_rfl) rfl) ?_
              refine JD.step 21 rfl (by kernel_rfl) ?_
              refine J.allocc rfl rfl rfl rfl Tryz.zeroValue25 rfl (fun b7 => ?_)
              refine J.nil ⟨(fun _ w h => (h.sub ((List.Sublist.refl _).cons _))), ?_⟩
              refine JD.step 22 rfl (by kernel_rfl) ?_
              first | refine J.stwc 0 rfl rfl rfl rfl rfl rfl Tryz.sizeOf25 (by first | rfl | assumption | simp [Value.cells, Value.oneCell']) rfl rfl ?_ | refine J.stw 0 rfl rfl rfl rfl rfl rfl Tryz.sizeOf25 (by first | rfl | assumption | simp [Value.cells, Value.oneCell']) rfl rfl ?_
              refine J.nil ⟨(fun h => by cases h), ?_⟩
              refine JD.done (by kernel_rfl) ?_
              refine C.seq ?_
              refine C.seq ?_
              refine C.region ?_
              refine J.ldw 0 rfl rfl rfl rfl rfl Tryz.isAgg25 rfl Tryz.sizeOf25 ?_
              refine J.call0 rfl rfl rfl rfl rfl Tryz.call17 (fun w h => Check_pt_calls w ⟨a, b', c', d, t⟩ At ct hct) ?_
              refine J.asg rfl rfl rfl rfl rfl ?_
              refine J.nil ?_
              refine C.seq ?_
              refine C.region ?_
              refine J.move rfl rfl rfl rfl rfl ?_
              refine J.bin rfl rfl rfl rfl rfl rfl (fun w => rfl) ?_
              refine J.nil ?_
              have hpo : ∀ tl : Bool, ptOfRec tl (.ok (7, [a, b', c', d], [t])) = if ptErr ⟨a, b', c', d, t⟩ ≠ 0 then (ptZero, ptErr ⟨a, b', c', d, t⟩) else if tl then (ptZero, 23) else (⟨a, b', c', d, t⟩, 0) := fun tl => rfl
              rw [hpo]
              refine C.cond rfl (fun h6 => ?_) (fun h6 => ?_)
              · have h6 : ptErr ⟨a, b', c', d, t⟩ ≠ 0 := by simpa using h6
                rw [if_pos h6]
                refine C.seq ?_
                refine C.region ?_
                refine J.bld (pl := #[(0, 1), (1, 1), (2, 1), (3, 1), (4, 1)]) (cells := #[_, _, _, _, _]) rfl rfl rfl rfl rfl Tryz.zeroValue25 Tryz.runUnderlying25 (fun w => by kernel_rfl) rfl ?_
                refine J.move rfl rfl rfl rfl rfl ?_
                first | refine J.stwc 4 rfl rfl rfl rfl rfl rfl Tryz.sizeOf25 (by first | rfl | assumption | simp [Value.cells, Value.oneCell']) rfl rfl ?_ | refine J.stw 4 rfl rfl rfl rfl rfl rfl Tryz.sizeOf25 (by first | rfl | assumption | simp [Value.cells, Value.oneCell']) rfl rfl ?_
                refine J.asg rfl rfl rfl rfl rfl ?_
                refine J.nil ?_
                refine C.ret ?_
                exact fin2 rfl (RV.cellw 4 rfl Tryz.isAgg25 rfl Tryz.sizeOf25) (RV.tmp rfl) (fun w' h => retPtZ h)
              · have h6 : ¬ ptErr ⟨a, b', c', d, t⟩ ≠ 0 := by simpa using h6
                rw [if_neg h6]
                have hdr : (x0 :: x1 :: r).drop (2 + (N : Int)).toNat = r.drop N := by rw [show (2 + (N : Int)).toNat = N + 2 by omega]; rfl
                refine C.skip ?_
                refine C.seq ?_
                refine C.seq ?_
                refine C.region ?_
                refine J.move rfl rfl rfl rfl rfl ?_
                refine J.move rfl rfl rfl rfl rfl ?_
                refine J.slc (l1 := some _) (h1 := none) (m1 := none) rfl rfl rfl rfl rfl rfl rfl rfl (slc_l Tryz.underlying22 Tryz.sizeOf5 (by omega) (by omega)) ?_
                refine J.callv rfl rfl rfl rfl rfl Tryz.call39 (fun w h => Trim_calls w _ ((x0 :: x1 :: r).drop (2 + (N : Int)).toNat) (SubV.drop _ (by omega) _ _ (h.ba hx0)))  ?_
                rintro v86 ⟨ys, hs, hi⟩
                obtain ⟨Az, cz, rfl, -, -, -⟩ := (hs _ _ (SubV.drop _ (by omega) _ _ hx0)).form
                rw [hdr] at hi
                refine J.len rfl rfl rfl rfl rfl Tryz.runUnderlying22 ?_
                refine J.bin rfl rfl rfl rfl rfl rfl (fun w => rfl) ?_
                refine J.nil ?_
                refine C.cond rfl (fun h7 => ?_) (fun h7 => ?_)
                · have h7 : ys ≠ [] := fun e => by rw [e] at h7; simp at h7
                  rw [show decide (¬ all0 (r.drop N)) = true from decide_eq_true (fun h => h7 (hi.1 h)), if_pos rfl]
                  refine C.seq ?_
                  refine C.region ?_
                  refine J.bld (pl := #[(0, 1), (1, 1), (2, 1), (3, 1), (4, 1)]) (cells := #[_, _, _, _, _]) rfl rfl rfl rfl rfl Tryz.zeroValue25 Tryz.runUnderlying25 (fun w => by kernel_rfl) rfl ?_
                  first | refine J.stwc 4 rfl rfl rfl rfl rfl rfl Tryz.sizeOf25 (by first | rfl | assumption | simp [Value.cells, Value.oneCell']) rfl rfl ?_ | refine J.stw 4 rfl rfl rfl rfl rfl rfl Tryz.sizeOf25 (by first | rfl | assumption | simp [Value.cells, Value.oneCell']) rfl rfl ?_
                  refine J.asg rfl rfl rfl rfl rfl ?_
                  refine J.nil ?_
                  refine C.ret ?_
                  exact fin2 rfl (RV.cellw 4 rfl Tryz.isAgg25 rfl Tryz.sizeOf25) (RV.tmp rfl) (fun w' h => retPtZ h)
                · have h7 : ys = [] := List.eq_nil_of_length_eq_zero (by simpa using h7)
                  rw [show decide (¬ all0 (r.drop N)) = false from decide_eq_false (fun h => h (hi.2 h7)), if_neg Bool.false_ne_true]
                  refine C.skip ?_
                  refine C.seq ?_
                  refine C.region ?_
                  refine J.ldw 0 rfl rfl rfl rfl rfl Tryz.isAgg25 rfl Tryz.sizeOf25 ?_
                  first | refine J.stwc 4 rfl rfl rfl rfl rfl rfl Tryz.sizeOf25 (by first | rfl | assumption | simp [Value.cells, Value.oneCell']) rfl rfl ?_ | refine J.stw 4 rfl rfl rfl rfl rfl rfl Tryz.sizeOf25 (by first | rfl | assumption | simp [Value.cells, Value.oneCell']) rfl rfl ?_
                  refine J.asg rfl rfl rfl rfl rfl ?_
                  refine J.nil ?_
                  refine C.ret ?_
                  exact fin2 rfl (RV.cellw 4 rfl Tryz.isAgg25 rfl Tryz.sizeOf25) (RV.tmp rfl) (fun w' h => (cellB_rb h 1 rfl).ret 0 rfl ⟨At, ct, fp2, rfl, rfl⟩)
          · rw [show ((ns.length : Int) != 4) = true by simp; omega]
            refine J.pass rfl rfl rfl rfl rfl (by intro h; cases h) ?_
            refine J.pass rfl rfl rfl rfl rfl (by intro h; cases h) ?_
            refine J.pass rfl rfl rfl rfl rfl (by intro h; cases h) ?_
            refine J.pass rfl rfl rfl rfl rfl (by intro h; cases h) ?_
            refine J.pick rfl rfl rfl rfl rfl rfl ?_
            refine J.asg rfl rfl rfl rfl rfl ?_
            refine J.nil ?_
            refine C.cond_t rfl ?_
            refine C.seq ?_
            refine C.region ?_
            refine J.bld (pl := #[(0, 1), (1, 1), (2, 1), (3, 1), (4, 1)]) (cells := #[_, _, _, _, _]) rfl rfl rfl rfl rfl Tryz.zeroValue25 Tryz.runUnderlying25 (fun w => by kernel_rfl) rfl ?_
            first | refine J.stwc 3 rfl rfl rfl rfl rfl rfl Tryz.sizeOf25 (by first | rfl | assumption | simp [Value.cells, Value.oneCell']) rfl rfl ?_ | refine J.stw 3 rfl rfl rfl rfl rfl rfl Tryz.sizeOf25 (by first | rfl | assumption | simp [Value.cells, Value.oneCell']) rfl rfl ?_
            refine J.asg rfl rfl rfl rfl rfl ?_
            refine J.nil ?_
            refine C.ret ?_
            rw [ptOfRec_cnt (.inl h4)]
            exact fin2 rfl (RV.cellw 3 rfl Tryz.isAgg25 rfl Tryz.sizeOf25) (RV.tmp rfl) (fun w' h => retPtZ h)
end Go.Proofs.YtiminmnmeknioaaGreatDoor

/- The page's points from octets: the walk. -/
set_option linter.unusedVariables false
namespace Go.Proofs.YtiminmnmeknioaaGreatDoor
open Go Go.RowKit

theorem get2 {x0 x1 : UInt8} {r : List UInt8} {i : Nat} (h : 2 ≤ i) (hl : i - 2 < r.length) : (x0 :: x1 :: r)[i]? = some r[i - 2] := by
  match i, h with
  | m + 2, _ =>
    show r[m]? = _
    exact List.getElem?_eq_getElem hl
theorem rDecode_pt_calls (w : World) (v : Value) (xs : List UInt8) (hx : BA w v xs) (hl : xs.length ≤ 140737488355328) : Calls Tryz.prog 13 #[v] w (Ret w (PPt (ptDec xs).1 (ptDec xs).2)) := by
  have hx0 := hx
  obtain ⟨A, c, rfl, h1, h2, h3⟩ := hx.form
  refine calls_of_C Tryz.func13 rfl Tryz.ntmps13 (Nat.le_of_ble_eq_true rfl) ?_
  refine C.less (L' := [(0, _)]) ?_ (Sub.cons rfl (Sub.nil _)) (fun w h => h)
  refine C.seq ?_
  refine C.region ?_
  refine J.allocc rfl rfl rfl rfl Tryz.zeroValue24 rfl (fun b2 => ?_)
  refine J.asg rfl rfl rfl rfl rfl ?_
  refine J.nil ?_
  refine C.seq ?_
  refine C.seq ?_
  refine C.region ?_
  refine J.move rfl rfl rfl rfl rfl ?_
  refine J.len rfl rfl rfl rfl rfl Tryz.runUnderlying22 ?_
  refine J.bin rfl rfl rfl rfl rfl rfl (fun w => rfl) ?_
  refine J.nil ?_
  refine C.cond rfl (fun h => ?_) (fun h => ?_)
  · have h : xs.length ≠ 512 := by simp at h; omega
    rw [ptDec_len h]
    refine C.seq ?_
    refine C.region ?_
    refine J.bld (pl := #[(0, 1), (1, 1), (2, 1), (3, 1), (4, 1)]) (cells := #[_, _, _, _, _]) rfl rfl rfl rfl rfl Tryz.zeroValue24 Tryz.runUnderlying24 (fun w => by kernel_rfl) rfl ?_
    first | refine J.stwc 0 rfl rfl rfl rfl rfl rfl Tryz.sizeOf24 (by first | rfl | assumption | simp [Value.cells, Value.oneCell']) rfl rfl ?_ | refine J.stw 0 rfl rfl rfl rfl rfl rfl Tryz.sizeOf24 (by first | rfl | assumption | simp [Value.cells, Value.oneCell']) rfl rfl ?_
    refine J.asg rfl rfl rfl rfl rfl ?_
    refine J.nil ?_
    refine C.ret ?_
    exact fin2 rfl (RV.cellw 0 rfl Tryz.isAgg24 rfl Tryz.sizeOf24) (RV.tmp rfl) (fun w' h => retPtZ h)
  · have h : xs.length = 512 := by simp at h; omega
    obtain ⟨x0, x1, r, rfl, hr5⟩ := len2 h
    obtain ⟨b, o, rfl, hb, hc⟩ := h3 (by simp)
    have hc0 := hc 0 x0 rfl
    have hc1 := hc 1 x1 rfl
    have hx0l := x0.toNat_lt
    have hx1l := x1.toNat_lt
    refine C.skip ?_
    refine C.seq ?_
    refine C.regionD0 11 (by kernel_rfl) ?_
    refine JD.take 0 rfl rfl rfl rfl (by kernel_rfl) (fun w h => h) (R.move rfl rfl) ?_
    refine JD.take 1 rfl rfl rfl rfl (by kernel_rfl) (fun w h => h) (by first | exact (R.idx1 rfl rfl rfl Tryz.runUnderlying22 Tryz.sizeOf5 (by omega)) | exact (R.idx rfl rfl rfl Tryz.runUnderlying22 Tryz.sizeOf5 (by omega))) ?_
    refine JD.take 5 rfl rfl rfl rfl (by kernel_rfl) (fun w h => h) (R.move rfl rfl) ?_
    refine JD.take 6 rfl rfl rfl rfl (by kernel_rfl) (fun w h => h) (by first | exact (R.idx1 rfl rfl rfl Tryz.runUnderlying22 Tryz.sizeOf5 (by omega)) | exact (R.idx rfl rfl rfl Tryz.runUnderlying22 Tryz.sizeOf5 (by omega))) ?_
    refine JD.take 2 rfl rfl rfl rfl (by kernel_rfl) (fun w h => h) (R.ld rfl rfl Tryz.isAgg5 (fun w h => cellOld h hc0)) ?_
    refine JD.take 3 rfl rfl rfl rfl (by kernel_rfl) (fun w h => h) (R.conv rfl rfl Tryz.runUnderlying5 Tryz.runUnderlying3 (by first | exact cw_u8_i64 _ | exact IntWalk.i64_in _ (by omega))) ?_
    refine JD.take 7 rfl rfl rfl rfl (by kernel_rfl) (fun w h => h) (R.ld rfl rfl Tryz.isAgg5 (fun w h => cellOld h hc1)) ?_
    refine JD.take 8 rfl rfl rfl rfl (by kernel_rfl) (fun w h => h) (R.conv rfl rfl Tryz.runUnderlying5 Tryz.runUnderlying3 (by first | exact cw_u8_i64 _ | exact IntWalk.i64_in _ (by omega))) ?_
    refine JD.step 4 rfl (by kernel_rfl) ?_
    refine J.bin rfl rfl rfl rfl rfl rfl (fun w => shl_nat_i64 _ 8 (by omega) (by omega)) ?_
    refine J.nil ⟨(fun _ w h => h), ?_⟩
    refine JD.step 9 rfl (by kernel_rfl) ?_
    refine J.bin rfl rfl rfl rfl rfl rfl (fun w => or_i64 _ _ (by omega) (by omega)) ?_
    rw [or_shl' _ _ 8 (by omega)]
    refine J.nil ⟨(fun _ w h => h), ?_⟩
    refine JD.take 10 rfl rfl rfl rfl (by kernel_rfl) (fun w h => h) (R.asg rfl rfl) ?_
    refine JD.done (by kernel_rfl) ?_
    refine C.seq ?_
    refine C.seq ?_
    refine C.region ?_
    refine J.move rfl rfl rfl rfl rfl ?_
    refine J.bin rfl rfl rfl rfl rfl rfl (fun w => rfl) ?_
    refine J.nil ?_
    refine C.cond rfl (fun h5 => ?_) (fun h5 => ?_)
    · have h5 : x0.toNat * 256 + x1.toNat > 510 := by have := of_decide_eq_true h5; omega
      rw [ptDec_long hr5 h5]
      refine C.seq ?_
      refine C.region ?_
      refine J.bld (pl := #[(0, 1), (1, 1), (2, 1), (3, 1), (4, 1)]) (cells := #[_, _, _, _, _]) rfl rfl rfl rfl rfl Tryz.zeroValue24 Tryz.runUnderlying24 (fun w => by kernel_rfl) rfl ?_
      first | refine J.stwc 0 rfl rfl rfl rfl rfl rfl Tryz.sizeOf24 (by first | rfl | assumption | simp [Value.cells, Value.oneCell']) rfl rfl ?_ | refine J.stw 0 rfl rfl rfl rfl rfl rfl Tryz.sizeOf24 (by first | rfl | assumption | simp [Value.cells, Value.oneCell']) rfl rfl ?_
      refine J.asg rfl rfl rfl rfl rfl ?_
      refine J.nil ?_
      refine C.ret ?_
      exact fin2 rfl (RV.cellw 0 rfl Tryz.isAgg24 rfl Tryz.sizeOf24) (RV.tmp rfl) (fun w' h => retPtZ h)
    · have h5 : ¬ x0.toNat * 256 + x1.toNat > 510 := by have := of_decide_eq_false h5; omega
      rw [ptDec_go hr5 h5]
      generalize hN : x0.toNat * 256 + x1.toNat = N at h5 ⊢
      have hlen : (x0 :: x1 :: r).length = r.length + 2 := rfl
      refine C.skip ?_
      refine C.seq ?_
      refine C.region ?_
      refine J.move rfl rfl rfl rfl rfl ?_
      refine J.move rfl rfl rfl rfl rfl ?_
      refine J.bin rfl rfl rfl rfl rfl rfl (fun w => ra_add (by omega)) ?_
      refine J.slc (l1 := some _) (h1 := some _) (m1 := none) rfl rfl rfl rfl rfl rfl rfl rfl (slc_lh Tryz.underlying22 Tryz.sizeOf5 (by omega) (by omega) (by omega)) ?_
      refine J.callrl rfl rfl rfl rfl rfl Tryz.call40 (fun w h => rDecode_calls w _ (r.take N) (SubV.cut (xs := x0 :: x1 :: r) (2 : Int) (2 + (N : Int)) 2 N rfl (by omega) (by omega) _ _ (h.ba hx0)) (by rw [List.length_take]; omega))  ?_
      rintro v32 R32 hp
      rcases exc (decRec (r.take N)) with ⟨e, he⟩ | ⟨⟨k, ns, ts⟩, he⟩
      · have hne := decRec_ne he
        rw [he] at hp ⊢
        obtain ⟨rfl, rfl⟩ := hp
        refine J.move rfl rfl rfl rfl rfl ?_
        refine J.ext rfl rfl rfl rfl rfl rfl ?_
        refine J.ext rfl rfl rfl rfl rfl rfl ?_
        refine J.allocc rfl rfl rfl rfl Tryz.zeroValue79 rfl (fun b5 => ?_)
        first | refine J.stwc 0 rfl rfl rfl rfl rfl rfl Tryz.sizeOf79 (by first | rfl | assumption | simp [Value.cells, Value.oneCell']) rfl rfl ?_ | refine J.stw 0 rfl rfl rfl rfl rfl rfl Tryz.sizeOf79 (by first | rfl | assumption | simp [Value.cells, Value.oneCell']) rfl rfl ?_
        refine J.asg rfl rfl rfl rfl rfl ?_
        refine J.nil ?_
        refine C.seq ?_
        refine C.block ?_
        refine C.seq ?_
        refine C.region ?_
        refine J.move rfl rfl rfl rfl rfl ?_
        refine J.bin rfl rfl rfl rfl rfl rfl (fun w => rfl) ?_
        refine J.asg rfl rfl rfl rfl rfl ?_
        refine J.nil ?_
        rw [show (e != 0) = true by simpa using hne]
        refine C.cond_t rfl ?_
        refine C.seq ?_
        refine C.region ?_
        refine J.bld (pl := #[(0, 1), (1, 1), (2, 1), (3, 1), (4, 1)]) (cells := #[_, _, _, _, _]) rfl rfl rfl rfl rfl Tryz.zeroValue24 Tryz.runUnderlying24 (fun w => by kernel_rfl) rfl ?_
        refine J.move rfl rfl rfl rfl rfl ?_
        first | refine J.stwc 1 rfl rfl rfl rfl rfl rfl Tryz.sizeOf24 (by first | rfl | assumption | simp [Value.cells, Value.oneCell']) rfl rfl ?_ | refine J.stw 1 rfl rfl rfl rfl rfl rfl Tryz.sizeOf24 (by first | rfl | assumption | simp [Value.cells, Value.oneCell']) rfl rfl ?_
        refine J.asg rfl rfl rfl rfl rfl ?_
        refine J.nil ?_
        refine C.ret ?_
        exact fin2 rfl (RV.cellw 1 rfl Tryz.isAgg24 rfl Tryz.sizeOf24) (RV.tmp rfl) (fun w' h => retPtZ h)
      · rw [he] at hp ⊢
        obtain ⟨A1, c1, A2, c2, fp1, fp2, rfl, rfl⟩ := hp
        refine J.move rfl rfl rfl rfl rfl ?_
        refine J.ext rfl rfl rfl rfl rfl rfl ?_
        refine J.ext rfl rfl rfl rfl rfl rfl ?_
        refine J.allocc rfl rfl rfl rfl Tryz.zeroValue79 rfl (fun b5 => ?_)
        first | refine J.stwc 0 rfl rfl rfl rfl rfl rfl Tryz.sizeOf79 (by first | rfl | assumption | simp [Value.cells, Value.oneCell']) rfl rfl ?_ | refine J.stw 0 rfl rfl rfl rfl rfl rfl Tryz.sizeOf79 (by first | rfl | assumption | simp [Value.cells, Value.oneCell']) rfl rfl ?_
        refine J.asg rfl rfl rfl rfl rfl ?_
        refine J.nil ?_
        refine C.seq ?_
        refine C.block ?_
        refine C.seq ?_
        refine C.region ?_
        refine J.move rfl rfl rfl rfl rfl ?_
        refine J.bin rfl rfl rfl rfl rfl rfl (fun w => rfl) ?_
        refine J.asg rfl rfl rfl rfl rfl ?_
        refine J.nil ?_
        refine C.cond_f rfl ?_
        refine C.seq ?_
        refine C.region ?_
        refine J.fld (k := 0) rfl rfl rfl rfl rfl Tryz.runUnderlying79 rfl rfl Tryz.sizeOf3 ?_
        refine J.ldo 0 rfl rfl rfl rfl rfl Tryz.isAgg3 rfl rfl ?_
        refine J.bin rfl rfl rfl rfl rfl rfl (fun w => rfl) ?_
        refine J.asg rfl rfl rfl rfl rfl ?_
        refine J.nil ?_
        refine C.cond rfl (fun hk => ?_) (fun hk => ?_)
        · have hk : k ≠ 7 := by simpa using hk
          rw [show ptOfRec _ (.ok (k, ns, ts)) = (ptZero, 22) by unfold ptOfRec; dsimp only; rw [if_pos hk]]
          refine C.seq ?_
          refine C.region ?_
          refine J.bld (pl := #[(0, 1), (1, 1), (2, 1), (3, 1), (4, 1)]) (cells := #[_, _, _, _, _]) rfl rfl rfl rfl rfl Tryz.zeroValue24 Tryz.runUnderlying24 (fun w => by kernel_rfl) rfl ?_
          first | refine J.stwc 3 rfl rfl rfl rfl rfl rfl Tryz.sizeOf24 (by first | rfl | assumption | simp [Value.cells, Value.oneCell']) rfl rfl ?_ | refine J.stw 3 rfl rfl rfl rfl rfl rfl Tryz.sizeOf24 (by first | rfl | assumption | simp [Value.cells, Value.oneCell']) rfl rfl ?_
          refine J.asg rfl rfl rfl rfl rfl ?_
          refine J.nil ?_
          refine C.ret ?_
          exact fin2 rfl (RV.cellw 3 rfl Tryz.isAgg24 rfl Tryz.sizeOf24) (RV.tmp rfl) (fun w' h => retPtZ h)
        · have hk : k = 7 := by simpa using hk
          subst hk
          refine C.seq ?_
          refine C.region ?_
          refine J.fld (k := 1) rfl rfl rfl rfl rfl Tryz.runUnderlying79 rfl rfl Tryz.sizeOf73 ?_
          refine J.ldo 0 rfl rfl rfl rfl rfl Tryz.isAgg73 rfl rfl ?_
          refine J.len rfl rfl rfl rfl rfl Tryz.runUnderlying73 ?_
          refine J.bin rfl rfl rfl rfl rfl rfl (fun w => rfl) ?_
          refine J.move rfl rfl rfl rfl rfl ?_
          rcases Decidable.em (ns.length = 4) with h4 | h4
          · rw [show ((ns.length : Int) != 4) = false by simp; omega]
            refine J.want rfl rfl rfl rfl ?_
            refine J.fld (k := 2) rfl rfl rfl rfl rfl Tryz.runUnderlying79 rfl rfl Tryz.sizeOf44 ?_
            refine J.want rfl rfl rfl rfl ?_
            refine J.ldo 0 rfl rfl rfl rfl rfl Tryz.isAgg44 rfl rfl ?_
            refine J.want rfl rfl rfl rfl ?_
            refine J.len rfl rfl rfl rfl rfl Tryz.runUnderlying44 ?_
            refine J.want rfl rfl rfl rfl ?_
            refine J.bin rfl rfl rfl rfl rfl rfl (fun w => rfl) ?_
            refine J.pick rfl rfl rfl rfl rfl rfl ?_
            refine J.asg rfl rfl rfl rfl rfl ?_
            refine J.nil ?_
            refine C.cond rfl (fun h1 => ?_) (fun h1 => ?_)
            · have h1 : ts.length ≠ 1 := by simp at h1; omega
              rw [ptOfRec_cnt (.inr h1)]
              refine C.seq ?_
              refine C.region ?_
              refine J.bld (pl := #[(0, 1), (1, 1), (2, 1), (3, 1), (4, 1)]) (cells := #[_, _, _, _, _]) rfl rfl rfl rfl rfl Tryz.zeroValue24 Tryz.runUnderlying24 (fun w => by kernel_rfl) rfl ?_
              first | refine J.stwc 3 rfl rfl rfl rfl rfl rfl Tryz.sizeOf24 (by first | rfl | assumption | simp [Value.cells, Value.oneCell']) rfl rfl ?_ | refine J.stw 3 rfl rfl rfl rfl rfl rfl Tryz.sizeOf24 (by first | rfl | assumption | simp [Value.cells, Value.oneCell']) rfl rfl ?_
              refine J.asg rfl rfl rfl rfl rfl ?_
              refine J.nil ?_
              refine C.ret ?_
              exact fin2 rfl (RV.cellw 3 rfl Tryz.isAgg24 rfl Tryz.sizeOf24) (RV.tmp rfl) (fun w' h => retPtZ h)
            · have h1 : ts.length = 1 := by simp at h1; omega
              obtain ⟨a, b', c', d, rfl⟩ := len4 h4
              obtain ⟨t, rfl⟩ := List.length_eq_one_iff.1 h1
              refine C.fact (p := ∃ bn on, A1 = some ⟨bn, on, none⟩) (fun w h => by
                obtain ⟨A, c, hv, _, _, h3⟩ := RI.form (h.get 2 rfl)
                injection hv with e1 e2 e3
                obtain ⟨b, o, e, _⟩ := h3 (by simp)
                exact ⟨b, o, e1.trans e⟩) ?_
              rintro ⟨bn, on, rfl⟩
              refine C.ex (fun q : Nat × Nat × Option Addr × Nat × Nat => [cellB fp2 q.1 q.2.1 (.slice q.2.2.1 t.length q.2.2.2.2) t, blk b5 #[vi 7, .slice (some ⟨bn, on, none⟩) 4 c1, .slice A2 1 c2] 79, riR fp1 (.slice (some ⟨bn, on, none⟩) 4 c1) [a, b', c', d], blk b2 #[vi 0, vi 0, vi 0, vi 0, .slice none 0 0] 24]) _ (fun w h => (h.front 1 rfl).one_text) ?_
              rintro ⟨bt, ot, At, cc, ct⟩ ⟨hv, hct⟩
              dsimp only at hv hct ⊢
              injection hv with e1 e2 e3
              subst e1
              refine C.skip ?_
              refine C.seq ?_
              refine C.regionD0 22 (by kernel_rfl) ?_
              refine JD.take 0 rfl rfl rfl rfl (by kernel_rfl) (fun w h => h) (R.fld (k := 1) rfl rfl Tryz.runUnderlying79 rfl rfl Tryz.sizeOf73) ?_
              refine JD.take 1 rfl rfl rfl rfl (by kernel_rfl) (fun w h => h) (R.ld rfl rfl Tryz.isAgg73 (fun w h => cellL h 1 rfl rfl)) ?_
              refine JD.take 2 rfl rfl rfl rfl (by kernel_rfl) (fun w h => h) (by first | exact (R.idx1 rfl rfl rfl Tryz.runUnderlying73 Tryz.sizeOf3 (by omega)) | exact (R.idx rfl rfl rfl Tryz.runUnderlying73 Tryz.sizeOf3 (by omega))) ?_
              refine JD.take 4 rfl rfl rfl rfl (by kernel_rfl) (fun w h => h) (R.fld (k := 1) rfl rfl Tryz.runUnderlying79 rfl rfl Tryz.sizeOf73) ?_
              refine JD.take 5 rfl rfl rfl rfl (by kernel_rfl) (fun w h => h) (R.ld rfl rfl Tryz.isAgg73 (fun w h => cellL h 1 rfl rfl)) ?_
              refine JD.take 6 rfl rfl rfl rfl (by kernel_rfl) (fun w h => h) (by first | exact (R.idx1 rfl rfl rfl Tryz.runUnderlying73 Tryz.sizeOf3 (by omega)) | exact (R.idx rfl rfl rfl Tryz.runUnderlying73 Tryz.sizeOf3 (by omega))) ?_
              refine JD.take 8 rfl rfl rfl rfl (by kernel_rfl) (fun w h => h) (R.fld (k := 1) rfl rfl Tryz.runUnderlying79 rfl rfl Tryz.sizeOf73) ?_
              refine JD.take 9 rfl rfl rfl rfl (by kernel_rfl) (fun w h => h) (R.ld rfl rfl Tryz.isAgg73 (fun w h => cellL h 1 rfl rfl)) ?_
              refine JD.take 10 rfl rfl rfl rfl (by kernel_rfl) (fun w h => h) (by first | exact (R.idx1 rfl rfl rfl Tryz.runUnderlying73 Tryz.sizeOf3 (by omega)) | exact (R.idx rfl rfl rfl Tryz.runUnderlying73 Tryz.sizeOf3 (by omega))) ?_
              refine JD.take 12 rfl rfl rfl rfl (by kernel_rfl) (fun w h => h) (R.fld (k := 1) rfl rfl Tryz.runUnderlying79 rfl rfl Tryz.sizeOf73) ?_
              refine JD.take 13 rfl rfl rfl rfl (by kernel_rfl) (fun w h => h) (R.ld rfl rfl Tryz.isAgg73 (fun w h => cellL h 1 rfl rfl)) ?_
              refine JD.take 14 rfl rfl rfl rfl (by kernel_rfl) (fun w h => h) (by first | exact (R.idx1 rfl rfl rfl Tryz.runUnderlying73 Tryz.sizeOf3 (by omega)) | exact (R.idx rfl rfl rfl Tryz.runUnderlying73 Tryz.sizeOf3 (by omega))) ?_
              refine JD.take 16 rfl rfl rfl rfl (by kernel_rfl) (fun w h => h) (R.fld (k := 2) rfl rfl Tryz.runUnderlying79 rfl rfl Tryz.sizeOf44) ?_
              refine JD.take 17 rfl rfl rfl rfl (by kernel_rfl) (fun w h => h) (R.ld rfl rfl Tryz.isAgg44 (fun w h => cellL h 1 rfl rfl)) ?_
              refine JD.take 18 rfl rfl rfl rfl (by kernel_rfl) (fun w h => h) (by first | exact (R.idx1 rfl rfl rfl Tryz.runUnderlying44 Tryz.sizeOf22 (by omega)) | exact (R.idx rfl rfl rfl Tryz.runUnderlying44 Tryz.sizeOf22 (by omega))) ?_
              refine JD.take 3 rfl rfl rfl rfl (by kernel_rfl) (fun w h => h) (R.ld rfl rfl Tryz.isAgg3 (fun w h => RI.at_ (h.get 2 rfl) (j := 0) rfl)) ?_
              refine JD.take 7 rfl rfl rfl rfl (by kernel_rfl) (fun w h => h) (R.ld rfl rfl Tryz.isAgg3 (fun w h => RI.at_ (h.get 2 rfl) (j := 1) rfl)) ?_
              refine JD.take 11 rfl rfl rfl rfl (by kernel_rfl) (fun w h => h) (R.ld rfl rfl Tryz.isAgg3 (fun w h => RI.at_ (h.get 2 rfl) (j := 2) rfl)) ?_
              refine JD.take 15 rfl rfl rfl rfl (by kernel_rfl) (fun w h => h) (R.ld rfl rfl Tryz.isAgg3 (fun w h => RI.at_ (h.get 2 rfl) (j := 3) rfl)) ?_
              refine JD.take 19 rfl rfl rfl rfl (by kernel_rfl) (fun w h => h) (R.ld rfl rfl Tryz.isAgg22 (fun w h => (h.get 0 rfl).2.1)) ?_
              refine JD.take 20 rfl rfl rfl rfl (by kernel_rfl) (fun w h => h) (R.bld (pl := #[(0, 1), (1, 1), (2, 1), (3, 1), (4, 1)]) (cells := #[_, _, _, _, _]) rfl rfl Tryz.zeroValue24 Tryz.runUnderlying24 (fun w => by kernel_rfl) rfl) ?_
              refine JD.step 21 rfl (by kernel_rfl) ?_
              refine J.allocc rfl rfl rfl rfl Tryz.zeroValue24 rfl (fun b7 => ?_)
              refine J.nil ⟨(fun _ w h => (h.sub ((List.Sublist.refl _).cons _))), ?_⟩
              refine JD.step 22 rfl (by kernel_rfl) ?_
              first | refine J.stwc 0 rfl rfl rfl rfl rfl rfl Tryz.sizeOf24 (by first | rfl | assumption | simp [Value.cells, Value.oneCell']) rfl rfl ?_ | refine J.stw 0 rfl rfl rfl rfl rfl rfl Tryz.sizeOf24 (by first | rfl | assumption | simp [Value.cells, Value.oneCell']) rfl rfl ?_
              refine J.nil ⟨(fun h => by cases h), ?_⟩
              refine JD.done (by kernel_rfl) ?_
              refine C.seq ?_
              refine C.region ?_
              refine J.ldw 0 rfl rfl rfl rfl rfl Tryz.isAgg24 rfl Tryz.sizeOf24 ?_
              refine J.call0 rfl rfl rfl rfl rfl Tryz.call18 (fun w h => rCheck_pt_calls w ⟨a, b', c', d, t⟩ At ct hct) ?_
              refine J.asg rfl rfl rfl rfl rfl ?_
              refine J.nil ?_
              refine C.seq ?_
              refine C.seq ?_
              refine C.region ?_
              refine J.move rfl rfl rfl rfl rfl ?_
              refine J.bin rfl rfl rfl rfl rfl rfl (fun w => rfl) ?_
              refine J.nil ?_
              have hpo : ∀ tl : Bool, ptOfRec tl (.ok (7, [a, b', c', d], [t])) = if ptErr ⟨a, b', c', d, t⟩ ≠ 0 then (ptZero, ptErr ⟨a, b', c', d, t⟩) else if tl then (ptZero, 23) else (⟨a, b', c', d, t⟩, 0) := fun tl => rfl
              rw [hpo]
              refine C.cond rfl (fun h6 => ?_) (fun h6 => ?_)
              · have h6 : ptErr ⟨a, b', c', d, t⟩ ≠ 0 := by simpa using h6
                rw [if_pos h6]
                refine C.seq ?_
                refine C.region ?_
                refine J.bld (pl := #[(0, 1), (1, 1), (2, 1), (3, 1), (4, 1)]) (cells := #[_, _, _, _, _]) rfl rfl rfl rfl rfl Tryz.zeroValue24 Tryz.runUnderlying24 (fun w => by kernel_rfl) rfl ?_
                refine J.move rfl rfl rfl rfl rfl ?_
                first | refine J.stwc 4 rfl rfl rfl rfl rfl rfl Tryz.sizeOf24 (by first | rfl | assumption | simp [Value.cells, Value.oneCell']) rfl rfl ?_ | refine J.stw 4 rfl rfl rfl rfl rfl rfl Tryz.sizeOf24 (by first | rfl | assumption | simp [Value.cells, Value.oneCell']) rfl rfl ?_
                refine J.asg rfl rfl rfl rfl rfl ?_
                refine J.nil ?_
                refine C.ret ?_
                exact fin2 rfl (RV.cellw 4 rfl Tryz.isAgg24 rfl Tryz.sizeOf24) (RV.tmp rfl) (fun w' h => retPtZ h)
              · have h6 : ¬ ptErr ⟨a, b', c', d, t⟩ ≠ 0 := by simpa using h6
                rw [if_neg h6]
                refine C.skip ?_
                refine C.seq ?_
                refine C.seq ?_
                refine C.region ?_
                refine J.move rfl rfl rfl rfl rfl ?_
                refine J.bin rfl rfl rfl rfl rfl rfl (fun w => ra_add (by omega)) ?_
                refine J.asg rfl rfl rfl rfl rfl ?_
                refine J.nil ?_
                refine C.block ?_
                refine C.loop (fun i : Nat => 2 + N ≤ i ∧ i ≤ 512 ∧ all0 ((r.take (i - 2)).drop N)) (fun i => [(0, .slice (some ⟨b, o, none⟩) (x0 :: x1 :: r).length c), (2, .pointer (some ⟨b2, 0, none⟩)), (7, .pointer (some ⟨b7, 0, none⟩)), (9, vi (i : Int))]) (fun i => [blk b7 #[vi a, vi b', vi c', vi d, .slice At t.length ct] 24, cellB fp2 bt ot (.slice At t.length ct) t, blk b2 #[vi 0, vi 0, vi 0, vi 0, .slice none 0 0] 24]) (fun i => 512 - i) (2 + N) ⟨Nat.le_refl _, by omega, by rw [Nat.add_sub_cancel_left, List.drop_take, Nat.sub_self, List.take_zero]; intro x hx; cases hx⟩ ?_ ?_ ?_
                · exact (Sub.cons rfl (Sub.cons rfl (Sub.cons rfl (Sub.cons rfl (Sub.nil _)))))
                · exact fun w h => h.sub (((List.Sublist.refl [_]).cons _ |>.cons _ |>.cons_cons _).cons_cons _)
                rintro i ⟨hi1, hi2, hi3⟩
                refine C.seq ?_
                refine C.seq ?_
                refine C.region ?_
                refine J.move rfl rfl rfl rfl rfl ?_
                refine J.bin rfl rfl rfl rfl rfl rfl (fun w => rfl) ?_
                refine J.nil ?_
                refine C.cond rfl (fun h8 => ?_) (fun h8 => ?_)
                · have hlt : i < 512 := by have := of_decide_eq_true h8; omega
                  have hil : i - 2 < r.length := by omega
                  have hci := hc i r[i - 2] (get2 (by omega) hil)
                  have hsn : (r.take (i + 1 - 2)).drop N = (r.take (i - 2)).drop N ++ [r[i - 2]] := by
                    rw [show i + 1 - 2 = (i - 2) + 1 by omega, List.take_succ_eq_append_getElem hil, List.drop_append_of_le_length (by rw [List.length_take]; omega)]
                  refine C.skip ?_
                  refine C.seq ?_
                  refine C.block ?_
                  refine C.seq ?_
                  refine C.region ?_
                  refine J.move rfl rfl rfl rfl rfl ?_
                  refine J.move rfl rfl rfl rfl rfl ?_
                  first | refine J.idx1 rfl rfl rfl rfl rfl rfl Tryz.runUnderlying22 Tryz.sizeOf5 (by omega) ?_ | refine J.idx rfl rfl rfl rfl rfl rfl Tryz.runUnderlying22 Tryz.sizeOf5 (by omega) ?_
                  refine J.ld rfl rfl rfl rfl rfl Tryz.isAgg5 (fun w h => cellOld h hci) ?_
                  refine J.bin rfl rfl rfl rfl rfl rfl (fun w => rfl) ?_
                  refine J.nil ?_
                  refine C.cond rfl (fun h7 => ?_) (fun h7 => ?_)
                  · have h7 : r[i - 2] ≠ 0 := fun e => by rw [e] at h7; simp at h7
                    have hna : ¬ all0 (r.drop N) := fun h => h7 (h _ (by
                      have : r.drop N = (r.take (i - 2)).drop N ++ r.drop (i - 2) := by
                        conv => lhs; rw [← List.take_append_drop (i - 2) r]
                        rw [List.drop_append_of_le_length (by rw [List.length_take]; omega)]
                      rw [this, List.drop_eq_getElem_cons hil]
                      exact List.mem_append_right _ List.mem_cons_self))
                    rw [show decide (¬ all0 (r.drop N)) = true from decide_eq_true hna, if_pos rfl]
                    refine C.seq ?_
                    refine C.region ?_
                    refine J.bld (pl := #[(0, 1), (1, 1), (2, 1), (3, 1), (4, 1)]) (cells := #[_, _, _, _, _]) rfl rfl rfl rfl rfl Tryz.zeroValue24 Tryz.runUnderlying24 (fun w => by kernel_rfl) rfl ?_
                    first | refine J.stwc 2 rfl rfl rfl rfl rfl rfl Tryz.sizeOf24 (by first | rfl | assumption | simp [Value.cells, Value.oneCell']) rfl rfl ?_ | refine J.stw 2 rfl rfl rfl rfl rfl rfl Tryz.sizeOf24 (by first | rfl | assumption | simp [Value.cells, Value.oneCell']) rfl rfl ?_
                    refine J.asg rfl rfl rfl rfl rfl ?_
                    refine J.nil ?_
                    refine C.ret ?_
                    exact fin2 rfl (RV.cellw 2 rfl Tryz.isAgg24 rfl Tryz.sizeOf24) (RV.tmp rfl) (fun w' h => retPtZ h)
                  · have h7 : r[i - 2] = 0 := by
                      apply UInt8.toNat_inj.1
                      simp at h7
                      exact h7
                    refine C.skip ?_
                    refine C.region ?_
                    refine J.move rfl rfl rfl rfl rfl ?_
                    refine J.bin rfl rfl rfl rfl rfl rfl (fun w => ra_add (by omega)) ?_
                    refine J.asg rfl rfl rfl rfl rfl ?_
                    refine J.nil ?_
                    refine ⟨rfl, i + 1, ⟨by omega, by omega, ?_⟩, by omega, (Sub.cons rfl (Sub.cons rfl (Sub.cons rfl (Sub.cons rfl (Sub.nil _))))), fun w h => h⟩
                    rw [hsn]
                    intro x hx
                    rcases List.mem_append.1 hx with hx | hx
                    · exact hi3 x hx
                    · rw [List.mem_singleton] at hx; rw [hx]; exact h7
                · have hge : i = 512 := by have := of_decide_eq_false h8; omega
                  subst hge
                  rw [List.take_of_length_le (by omega)] at hi3
                  rw [show decide (¬ all0 (r.drop N)) = false from decide_eq_false (fun h => h hi3), if_neg Bool.false_ne_true]
                  refine C.exit rfl ?_
                  refine C.seq ?_
                  refine C.region ?_
                  refine J.ldw 0 rfl rfl rfl rfl rfl Tryz.isAgg24 rfl Tryz.sizeOf24 ?_
                  first | refine J.stwc 2 rfl rfl rfl rfl rfl rfl Tryz.sizeOf24 (by first | rfl | assumption | simp [Value.cells, Value.oneCell']) rfl rfl ?_ | refine J.stw 2 rfl rfl rfl rfl rfl rfl Tryz.sizeOf24 (by first | rfl | assumption | simp [Value.cells, Value.oneCell']) rfl rfl ?_
                  refine J.asg rfl rfl rfl rfl rfl ?_
                  refine J.nil ?_
                  refine C.ret ?_
                  exact fin2 rfl (RV.cellw 2 rfl Tryz.isAgg24 rfl Tryz.sizeOf24) (RV.tmp rfl) (fun w' h => (cellB_rb h 1 rfl).ret 0 rfl ⟨At, ct, fp2, rfl, rfl⟩)
          · rw [show ((ns.length : Int) != 4) = true by simp; omega]
            refine J.pass rfl rfl rfl rfl rfl (by intro h; cases h) ?_
            refine J.pass rfl rfl rfl rfl rfl (by intro h; cases h) ?_
            refine J.pass rfl rfl rfl rfl rfl (by intro h; cases h) ?_
            refine J.pass rfl rfl rfl rfl rfl (by intro h; cases h) ?_
            refine J.pick rfl rfl rfl rfl rfl rfl ?_
            refine J.asg rfl rfl rfl rfl rfl ?_
            refine J.nil ?_
            refine C.cond_t rfl ?_
            refine C.seq ?_
            refine C.region ?_
            refine J.bld (pl := #[(0, 1), (1, 1), (2, 1), (3, 1), (4, 1)]) (cells := #[_, _, _, _, _]) rfl rfl rfl rfl rfl Tryz.zeroValue24 Tryz.runUnderlying24 (fun w => by kernel_rfl) rfl ?_
            first | refine J.stwc 3 rfl rfl rfl rfl rfl rfl Tryz.sizeOf24 (by first | rfl | assumption | simp [Value.cells, Value.oneCell']) rfl rfl ?_ | refine J.stw 3 rfl rfl rfl rfl rfl rfl Tryz.sizeOf24 (by first | rfl | assumption | simp [Value.cells, Value.oneCell']) rfl rfl ?_
            refine J.asg rfl rfl rfl rfl rfl ?_
            refine J.nil ?_
            refine C.ret ?_
            rw [ptOfRec_cnt (.inl h4)]
            exact fin2 rfl (RV.cellw 3 rfl Tryz.isAgg24 rfl Tryz.sizeOf24) (RV.tmp rfl) (fun w' h => retPtZ h)
end Go.Proofs.YtiminmnmeknioaaGreatDoor

/- disk.New. -/
set_option linter.unusedVariables false
namespace Go.Proofs.YtiminmnmeknioaaGreatDoor
open Go Go.RowKit

def sec0 : List UInt8 := List.replicate 64 0
def dkNew (n : Int) : Dk × Int := if n < 1 ∨ n > 2048 then (⟨[], []⟩, 4) else (⟨List.replicate n.toNat sec0, []⟩, 0)
/-- A disk in memory of the call's own. -/
def PDk (d : Dk) (e : Int) : Value → List Res → Prop := fun v Rs => ∃ A1 c1 A2 c2 vs fp, Rs = [rowR 22 1 (.slice A1 d.secs.length c1) d.secs.length vs, gR 5 vs d.secs, rwsR fp (.slice A2 d.cache.length c2) d.cache] ∧ v = .tuple #[.agg #[.slice A1 d.secs.length c1, .slice A2 d.cache.length c2], vi e]
theorem nilRws {mu : Nat → Prop} {w0 w : World} {M : List Res} (h : St mu w0 M w) : St mu w0 (rwsR (fun _ => False) (.slice none 0 0) [] :: M) w :=
  h.grow (Below.refl _ w) RWS.nil (fun b hb => hb.elim)
theorem retDkZ {w w' : World} {M : List Res} {e : Int} (h : St No w M w') : RetL No w (PDk ⟨[], []⟩ e) (.returned (.tuple #[.agg #[.slice none 0 0, .slice none 0 0], vi e])) w' :=
  (((nilRws h).gnil 5).nilRow 22 1).retL (Rs := [_, _, _]) ((((List.nil_sublist _).cons_cons _).cons_cons _).cons_cons _) ⟨none, 0, none, 0, [], _, rfl, rfl⟩
theorem zero_row {mu : Nat → Prop} {w0 w : World} {M : List Res} {b : Nat} {e : TypeId} (h : St mu w0 (blk b (List.replicate 64 (Value.int .u8 0)).toArray e :: M) w) : St mu w0 (rowR e 1 (.slice (some ⟨b, 0, none⟩) 64 64) sec0.length (sec0.map vu8) :: M) w := by
  have h2 := blk_row (n := 64) (sz := 1) h (by omega) (by simp)
  have e1 : sec0.length = 64 := by simp [sec0]
  have e2 : sec0.map vu8 = List.replicate 64 (Value.int .u8 0) := by unfold sec0; rw [List.map_replicate]; rfl
  rw [e1, e2]
  exact h2
theorem New_calls (w : World) (n : Int) : Calls Tryz.prog 26 #[vi n] w (RetL No w (PDk (dkNew n).1 (dkNew n).2)) := by
  refine calls_of_C Tryz.func26 rfl Tryz.ntmps26 (Nat.le_of_ble_eq_true rfl) ?_
  refine C.less (L' := [(0, _)]) ?_ (Sub.cons rfl (Sub.nil _)) (fun w h => h)
  refine C.seq ?_
  refine C.region ?_
  refine J.allocc rfl rfl rfl rfl Tryz.zeroValue50 rfl (fun b2 => ?_)
  refine J.asg rfl rfl rfl rfl rfl ?_
  refine J.nil ?_
  refine C.seq ?_
  refine C.seq ?_
  refine C.region ?_
  refine J.move rfl rfl rfl rfl rfl ?_
  refine J.bin rfl rfl rfl rfl rfl rfl (fun w => rfl) ?_
  refine J.move rfl rfl rfl rfl rfl ?_
  rcases Decidable.em (n < 1) with h1 | h1
  · have e : dkNew n = (⟨[], []⟩, 4) := by unfold dkNew; rw [if_pos (.inl h1)]
    rw [e, dec_t h1]
    refine J.pass rfl rfl rfl rfl rfl (by intro h; cases h) ?_
    refine J.pass rfl rfl rfl rfl rfl (by intro h; cases h) ?_
    refine J.pick rfl rfl rfl rfl rfl rfl ?_
    refine J.nil ?_
    refine C.cond_t rfl ?_
    refine C.seq ?_
    refine C.region ?_
    refine J.bld (pl := #[(0, 1), (1, 1)]) (cells := #[_, _]) rfl rfl rfl rfl rfl Tryz.zeroValue50 Tryz.runUnderlying50 (fun w => by kernel_rfl) rfl ?_
    first | refine J.stwc 0 rfl rfl rfl rfl rfl rfl Tryz.sizeOf50 (by first | rfl | assumption | simp [Value.cells, Value.oneCell']) rfl rfl ?_ | refine J.stw 0 rfl rfl rfl rfl rfl rfl Tryz.sizeOf50 (by first | rfl | assumption | simp [Value.cells, Value.oneCell']) rfl rfl ?_
    refine J.asg rfl rfl rfl rfl rfl ?_
    refine J.nil ?_
    refine C.ret ?_
    exact fin2 rfl (RV.cellw 0 rfl Tryz.isAgg50 rfl Tryz.sizeOf50) (RV.tmp rfl) (fun w' h => retDkZ h)
  · rw [dec_f h1]
    refine J.want rfl rfl rfl rfl ?_
    refine J.move rfl rfl rfl rfl rfl ?_
    refine J.want rfl rfl rfl rfl ?_
    refine J.bin rfl rfl rfl rfl rfl rfl (fun w => rfl) ?_
    refine J.pick rfl rfl rfl rfl rfl rfl ?_
    refine J.nil ?_
    refine C.cond rfl (fun h2 => ?_) (fun h2 => ?_)
    · have e : dkNew n = (⟨[], []⟩, 4) := by unfold dkNew; rw [if_pos (.inr (of_decide_eq_true h2))]
      rw [e]
      refine C.seq ?_
      refine C.region ?_
      refine J.bld (pl := #[(0, 1), (1, 1)]) (cells := #[_, _]) rfl rfl rfl rfl rfl Tryz.zeroValue50 Tryz.runUnderlying50 (fun w => by kernel_rfl) rfl ?_
      first | refine J.stwc 0 rfl rfl rfl rfl rfl rfl Tryz.sizeOf50 (by first | rfl | assumption | simp [Value.cells, Value.oneCell']) rfl rfl ?_ | refine J.stw 0 rfl rfl rfl rfl rfl rfl Tryz.sizeOf50 (by first | rfl | assumption | simp [Value.cells, Value.oneCell']) rfl rfl ?_
      refine J.asg rfl rfl rfl rfl rfl ?_
      refine J.nil ?_
      refine C.ret ?_
      exact fin2 rfl (RV.cellw 0 rfl Tryz.isAgg50 rfl Tryz.sizeOf50) (RV.tmp rfl) (fun w' h => retDkZ h)
    · have h2 := of_decide_eq_false h2
      have e : dkNew n = (⟨List.replicate n.toNat sec0, []⟩, 0) := by unfold dkNew; rw [if_neg (by omega)]
      rw [e]
      refine C.skip ?_
      refine C.seq ?_
      refine C.region ?_
      refine J.allocc rfl rfl rfl rfl Tryz.zeroValue50 rfl (fun b4 => ?_)
      refine J.nil ?_
      refine C.seq ?_
      refine C.seq ?_
      refine C.region ?_
      refine J.move rfl rfl rfl rfl rfl ?_
      refine J.move rfl rfl rfl rfl rfl ?_
      refine J.nil ?_
      refine C.block ?_
      refine C.loop (σ := Nat × Value × List Value) (fun s => (s.1 : Int) ≤ n) (fun s => [(2, .pointer (some ⟨b2, 0, none⟩)), (4, .pointer (some ⟨b4, 0, none⟩)), (12, vi n), (13, vi (s.1 : Int))]) (fun s => [rowR 22 1 s.2.1 s.1 s.2.2, gR 5 s.2.2 (List.replicate s.1 sec0), blk b4 #[s.2.1, .slice none 0 0] 50, blk b2 #[.slice none 0 0, .slice none 0 0] 50]) (fun s => n.toNat - s.1) (0, .slice none 0 0, []) (by show (0 : Int) ≤ n; omega) ?_ ?_ ?_
      · exact (Sub.cons rfl (Sub.cons rfl (Sub.cons rfl (Sub.cons rfl (Sub.nil _)))))
      · exact fun w h => (h.gnil _).nilRow _ _
      rintro ⟨i, v, vs⟩ hi
      dsimp only at hi ⊢
      refine C.seq ?_
      refine C.region ?_
      refine J.bin rfl rfl rfl rfl rfl rfl (fun w => rfl) ?_
      refine J.nil ?_
      refine C.seq ?_
      refine C.cond rfl (fun h5 => ?_) (fun h5 => ?_)
      · have h5 := of_decide_eq_true h5
        refine C.skip ?_
        refine C.seq ?_
        refine C.block ?_
        refine C.regionD (fun w' => St No w [blk b4 #[v, .slice none 0 0] 50] w') 6 (by kernel_rfl) ?_
        refine JD.take 0 rfl rfl rfl rfl (by kernel_rfl) (fun w h => ((by first | exact h.pick 2 rfl | exact h.pick 3 rfl | exact h.pick 4 rfl))) (R.fld (k := 0) rfl rfl Tryz.runUnderlying50 rfl rfl Tryz.sizeOf44) ?_
        refine JD.take 1 rfl rfl rfl rfl (by kernel_rfl) (fun w h => ((by first | exact h.pick 2 rfl | exact h.pick 3 rfl | exact h.pick 4 rfl))) (R.ld rfl rfl Tryz.isAgg44 (fun w h => cellO h 0 rfl rfl)) ?_
        refine JD.step 2 rfl (by kernel_rfl) ?_
        refine J.mk rfl rfl rfl rfl rfl rfl (n := 64) rfl rfl  Tryz.underlying22 inf5 rfl  (by omega) (by omega) (fun b17 => ?_)
        refine J.nil ⟨(fun _ w h => ((by first | exact h.pick 2 rfl | exact h.pick 3 rfl | exact h.pick 4 rfl))), ?_⟩
        refine JD.step 3 rfl (by kernel_rfl) ?_
        refine J.blds (vs := [_]) (cells := [_]) rfl rfl rfl rfl rfl Tryz.zeroValue22 Tryz.runUnderlying44 Tryz.sizeOf22 rfl rfl rfl rfl (fun b18 => ?_)
        refine J.nil ⟨(fun _ w h => ((by first | exact h.pick 2 rfl | exact h.pick 3 rfl | exact h.pick 4 rfl))), ?_⟩
        refine JD.step 4 rfl (by kernel_rfl) ?_
        refine J.app 2 rfl rfl rfl rfl rfl rfl Tryz.underlying44 inf22 rfl rfl rfl rfl (news := [.slice (some ⟨b17, 0, none⟩) 64 64]) rfl (fun w h hn => srcO h 0 rfl) rfl (by omega) (fun v19 => ?_)
        refine J.fact (fun w h => row_form (h.get 2 rfl)) ?_
        rintro ⟨A19, c19, rfl, -, -⟩
        refine J.nil ⟨(fun _ w h => ((by first | exact h.pick 2 rfl | exact h.pick 3 rfl | exact h.pick 4 rfl))), ?_⟩
        refine JD.take 5 rfl rfl rfl rfl (by kernel_rfl) (fun w h => ((by first | exact h.pick 2 rfl | exact h.pick 3 rfl | exact h.pick 4 rfl))) (R.fld (k := 0) rfl rfl Tryz.runUnderlying50 rfl rfl Tryz.sizeOf44) ?_
        refine JD.step 6 rfl (by kernel_rfl) ?_
        refine J.st1 4 rfl rfl rfl rfl rfl rfl Tryz.sizeOf44 (by first | rfl | assumption | simp [Value.cells, Value.oneCell']) rfl rfl rfl ?_
        refine J.nil ⟨(fun h => by cases h), ?_⟩
        refine JD.done (by kernel_rfl) ?_
        refine C.region ?_
        refine J.bin rfl rfl rfl rfl rfl rfl (fun w => ra_add (by omega)) ?_
        refine J.move rfl rfl rfl rfl rfl ?_
        refine J.nil ?_
        refine ⟨rfl, (i + 1, .slice A19 (i + 1) c19, vs ++ [.slice (some ⟨b17, 0, none⟩) 64 64]), by dsimp only; omega, by dsimp only; omega, (Sub.cons rfl (Sub.cons rfl (Sub.cons rfl (Sub.cons rfl (Sub.nil _))))), fun w h => ?_⟩
        have g1 := zero_row (h.sub ((List.Sublist.refl _).cons _))
        have g2 := ((g1.front 2 rfl).front 1 rfl).gsnoc
        rw [← List.replicate_succ'] at g2
        exact g2.front 1 rfl
      · have h5 := of_decide_eq_false h5
        have hin : n.toNat = i := by omega
        rw [hin]
        refine C.fact (fun w h => row_form (h.get 0 rfl)) ?_
        rintro ⟨A1, c1, rfl, -, -⟩
        refine C.exit rfl ?_
        refine C.seq ?_
        refine C.region ?_
        refine J.ldw 2 rfl rfl rfl rfl rfl Tryz.isAgg50 rfl Tryz.sizeOf50 ?_
        first | refine J.stwc 3 rfl rfl rfl rfl rfl rfl Tryz.sizeOf50 (by first | rfl | assumption | simp [Value.cells, Value.oneCell']) rfl rfl ?_ | refine J.stw 3 rfl rfl rfl rfl rfl rfl Tryz.sizeOf50 (by first | rfl | assumption | simp [Value.cells, Value.oneCell']) rfl rfl ?_
        refine J.asg rfl rfl rfl rfl rfl ?_
        refine J.nil ?_
        refine C.ret ?_
        refine fin2 rfl (RV.cellw 3 rfl Tryz.isAgg50 rfl Tryz.sizeOf50) (RV.tmp rfl) (fun w' h => ?_)
        refine (((nilRws h).front 2 rfl).front 2 rfl).retL (Rs := [_, _, _]) ((((List.nil_sublist _).cons_cons _).cons_cons _).cons_cons _) ⟨A1, c1, none, 0, vs, fun _ => False, ?_, ?_⟩
        · rw [List.length_replicate]; rfl
        · rw [List.length_replicate]; rfl
end Go.Proofs.YtiminmnmeknioaaGreatDoor

/- disk.Check: the search among sectors. -/
set_option linter.unusedVariables false
namespace Go.Proofs.YtiminmnmeknioaaGreatDoor
open Go Go.RowKit

def oddS (x : List UInt8) : Bool := decide (x.length ≠ 64)
abbrev fOdd : Value := .func (.func 83) #[] #[]
theorem odd_calls (w : World) (v : Value) (x : List UInt8) (hx : BA w v x) : Calls Tryz.prog 83 #[v] w (Ret0 w (.bool (oddS x))) := by
  obtain ⟨A, c, rfl, h1, h2, h3⟩ := hx.form
  refine calls_of_C Tryz.func83 rfl Tryz.ntmps83 (Nat.le_of_ble_eq_true rfl) ?_
  refine C.less (L' := [(0, _)]) ?_ (Sub.cons rfl (Sub.nil _)) (fun w h => h)
  refine C.seq ?_
  refine C.region ?_
  refine J.asg rfl rfl rfl rfl rfl ?_
  refine J.nil ?_
  refine C.seq ?_
  refine C.region ?_
  refine J.move rfl rfl rfl rfl rfl ?_
  refine J.len rfl rfl rfl rfl rfl Tryz.runUnderlying22 ?_
  refine J.bin rfl rfl rfl rfl rfl rfl (fun w => rfl) ?_
  refine J.asg rfl rfl rfl rfl rfl ?_
  refine J.nil ?_
  refine C.ret ?_
  have e : ((x.length : Int) != 64) = oddS x := by
    unfold oddS
    by_cases h : x.length = 64
    · simp [h]
    · have : (x.length : Int) ≠ 64 := by omega
      simp [h, this]
  rw [e]
  exact fin1 rfl (RV.tmp rfl) (fun w' h => h.ret0)
theorem indexS_calls (w : World) (v : Value) (xss : List (List UInt8)) (hx : BSA w v xss) : Calls Tryz.prog 105 #[v, fOdd] w (RetV w (fun z => ∃ i : Int, z = vi i ∧ (0 ≤ i ↔ xss.any oddS = true))) := by
  obtain ⟨A, c, rfl, h1, h2, h3⟩ := hx.form
  refine calls_of_C Tryz.func105 rfl Tryz.ntmps105 (Nat.le_of_ble_eq_true rfl) ?_
  refine C.less (L' := [(0, _), (1, _)]) ?_ (Sub.cons rfl (Sub.cons rfl (Sub.nil _))) (fun w h => h)
  refine C.seq ?_
  refine C.region ?_
  refine J.asg rfl rfl rfl rfl rfl ?_
  refine J.nil ?_
  refine C.seq ?_
  refine C.seq ?_
  refine C.region ?_
  refine J.move rfl rfl rfl rfl rfl ?_
  refine J.len rfl rfl rfl rfl rfl Tryz.runUnderlying44 ?_
  refine J.move rfl rfl rfl rfl rfl ?_
  refine J.nil ?_
  refine C.block ?_
  refine C.loop (fun i : Nat => i ≤ xss.length ∧ (xss.take i).any oddS = false) (fun i => [(0, .slice A xss.length c), (1, fOdd), (7, vi (xss.length : Int)), (8, vi (i : Int))]) (fun i => []) (fun i => xss.length - i) 0 ⟨Nat.zero_le _, rfl⟩ ?_ ?_ ?_
  · exact (Sub.cons rfl (Sub.cons rfl (Sub.cons rfl (Sub.cons rfl (Sub.nil _)))))
  · exact fun w h => h
  rintro i ⟨hi, hpre⟩
  refine C.seq ?_
  refine C.region ?_
  refine J.bin rfl rfl rfl rfl rfl rfl (fun w => rfl) ?_
  refine J.nil ?_
  refine C.seq ?_
  refine C.cond rfl (fun h => ?_) (fun h => ?_)
  · have hlt : i < xss.length := by have := of_decide_eq_true h; omega
    obtain ⟨b, o, rfl, hb, hcell⟩ := h3 (by omega)
    obtain ⟨u, hu, hr⟩ := hcell i xss[i] (by simp)
    refine C.skip ?_
    refine C.seq ?_
    refine C.block ?_
    refine C.seq ?_
    refine C.region ?_
    refine J.move rfl rfl rfl rfl rfl ?_
    refine J.asg rfl rfl rfl rfl rfl ?_
    refine J.nil ?_
    refine C.seq ?_
    refine C.region ?_
    refine J.move rfl rfl rfl rfl rfl ?_
    refine J.move rfl rfl rfl rfl rfl ?_
    refine J.move rfl rfl rfl rfl rfl ?_
    first | refine J.idx1 rfl rfl rfl rfl rfl rfl Tryz.runUnderlying44 Tryz.sizeOf22 (by omega) ?_ | refine J.idx rfl rfl rfl rfl rfl rfl Tryz.runUnderlying44 Tryz.sizeOf22 (by omega) ?_
    refine J.ld rfl rfl rfl rfl rfl Tryz.isAgg22 (fun w h => cellOld h hu) ?_
    refine J.callf0 rfl rfl rfl rfl rfl rfl Tryz.call83 (fun w h => odd_calls w _ _ (h.ba hr)) ?_
    refine J.nil ?_
    refine C.cond rfl (fun h5 => ?_) (fun h5 => ?_)
    · refine C.seq ?_
      refine C.region ?_
      refine J.move rfl rfl rfl rfl rfl ?_
      refine J.asg rfl rfl rfl rfl rfl ?_
      refine J.nil ?_
      refine C.ret ?_
      exact fin1 rfl (RV.tmp rfl) (fun w' h => h.retV ⟨i, rfl, ⟨fun _ => List.any_eq_true.2 ⟨xss[i], List.getElem_mem _, h5⟩, fun _ => by omega⟩⟩)
    · refine C.skip ?_
      refine C.region ?_
      refine J.bin rfl rfl rfl rfl rfl rfl (fun w => ra_add (by omega)) ?_
      refine J.move rfl rfl rfl rfl rfl ?_
      refine J.nil ?_
      exact ⟨rfl, i + 1, ⟨hlt, any_take_snoc i hlt hpre h5⟩, by omega, (Sub.cons rfl (Sub.cons rfl (Sub.cons rfl (Sub.cons rfl (Sub.nil _))))), fun w h => h⟩
  · have hge : i = xss.length := by have := of_decide_eq_false h; omega
    subst hge
    rw [List.take_length] at hpre
    refine C.exit rfl ?_
    refine C.seq ?_
    refine C.region ?_
    refine J.asg rfl rfl rfl rfl rfl ?_
    refine J.nil ?_
    refine C.ret ?_
    exact fin1 rfl (RV.tmp rfl) (fun w' h => h.retV ⟨-1, rfl, ⟨fun h => absurd h (by omega), fun h => by rw [hpre] at h; cases h⟩⟩)
theorem containsS_calls (w : World) (v : Value) (xss : List (List UInt8)) (hx : BSA w v xss) : Calls Tryz.prog 85 #[v, fOdd] w (Ret0 w (.bool (xss.any oddS))) := by
  refine calls_of_C Tryz.func85 rfl Tryz.ntmps85 (Nat.le_of_ble_eq_true rfl) ?_
  refine C.less (L' := [(0, _), (1, _)]) ?_ (Sub.cons rfl (Sub.cons rfl (Sub.nil _))) (fun w h => h)
  refine C.seq ?_
  refine C.region ?_
  refine J.asg rfl rfl rfl rfl rfl ?_
  refine J.nil ?_
  refine C.seq ?_
  refine C.region ?_
  refine J.move rfl rfl rfl rfl rfl ?_
  refine J.move rfl rfl rfl rfl rfl ?_
  refine J.callv rfl rfl rfl rfl rfl Tryz.call105 (fun w h => indexS_calls w _ xss (h.bsa hx))  ?_
  rintro v7 ⟨i, rfl, hi⟩
  refine J.bin rfl rfl rfl rfl rfl rfl (fun w => rfl) ?_
  refine J.asg rfl rfl rfl rfl rfl ?_
  refine J.nil ?_
  refine C.ret ?_
  rw [show decide (i ≥ 0) = xss.any oddS by rw [Bool.eq_iff_iff, decide_eq_true_iff]; exact hi]
  exact fin1 rfl (RV.tmp rfl) (fun w' h => h.ret0)
end Go.Proofs.YtiminmnmeknioaaGreatDoor

/- disk.Check: the search among writes. -/
set_option linter.unusedVariables false
namespace Go.Proofs.YtiminmnmeknioaaGreatDoor
open Go Go.RowKit

def badW (n : Nat) (x : Wr) : Bool := decide (x.1 < 0) || decide (x.1 ≥ n) || oddS x.2
theorem bad_calls (w : World) (ba bo : Nat) (x : Wr) (dv cv : Value) (A : Option Addr) (n c : Nat) (h1 : w.heap[ba]? = some (.cells #[.slice A n c, cv] 50 (0, 0))) (h3 : w.heap[bo]? = some (.cells #[fOdd] 134 (0, 0))) (hx : BA w dv x.2) :
    Calls Tryz.prog 84 #[.agg #[vi x.1, dv], .pointer (some ⟨ba, 0, none⟩), .pointer (some ⟨bo, 0, none⟩)] w (Ret0 w (.bool (badW n x))) := by
  refine calls_of_C Tryz.func84 rfl Tryz.ntmps84 (Nat.le_of_ble_eq_true rfl) ?_
  refine C.less (L' := [(0, _), (1, _), (2, _)]) ?_ (Sub.cons rfl (Sub.cons rfl (Sub.cons rfl (Sub.nil _)))) (fun w h => h)
  refine C.seq ?_
  refine C.region ?_
  first | refine J.boxc rfl rfl rfl rfl rfl rfl (fun b3 => ?_) | refine J.box rfl rfl rfl rfl rfl (fun b3 => ?_)
  refine J.asg rfl rfl rfl rfl rfl ?_
  refine J.nil ?_
  refine C.seq ?_
  refine C.region ?_
  refine J.fld (k := 0) rfl rfl rfl rfl rfl Tryz.runUnderlying90 rfl rfl Tryz.sizeOf3 ?_
  refine J.ldo 0 rfl rfl rfl rfl rfl Tryz.isAgg3 rfl rfl ?_
  refine J.bin rfl rfl rfl rfl rfl rfl (fun w => rfl) ?_
  refine J.move rfl rfl rfl rfl rfl ?_
  rcases Decidable.em (x.1 < 0) with e1 | e1
  · have e : badW n x = true := by unfold badW; rw [dec_t e1]; rfl
    rw [e, dec_t e1]
    refine J.pass rfl rfl rfl rfl rfl (by intro h; cases h) ?_
    refine J.pass rfl rfl rfl rfl rfl (by intro h; cases h) ?_
    refine J.pass rfl rfl rfl rfl rfl (by intro h; cases h) ?_
    refine J.pass rfl rfl rfl rfl rfl (by intro h; cases h) ?_
    refine J.pass rfl rfl rfl rfl rfl (by intro h; cases h) ?_
    refine J.pass rfl rfl rfl rfl rfl (by intro h; cases h) ?_
    refine J.pick rfl rfl rfl rfl rfl rfl ?_
    refine J.move rfl rfl rfl rfl rfl ?_
    refine J.pass rfl rfl rfl rfl rfl (by intro h; cases h) ?_
    refine J.pass rfl rfl rfl rfl rfl (by intro h; cases h) ?_
    refine J.pass rfl rfl rfl rfl rfl (by intro h; cases h) ?_
    refine J.pass rfl rfl rfl rfl rfl (by intro h; cases h) ?_
    refine J.pick rfl rfl rfl rfl rfl rfl ?_
    refine J.asg rfl rfl rfl rfl rfl ?_
    refine J.nil ?_
    refine C.ret ?_
    exact fin1 rfl (RV.tmp rfl) (fun w' h => h.ret0)
  · rw [dec_f e1]
    refine J.want rfl rfl rfl rfl ?_
    refine J.fld (k := 0) rfl rfl rfl rfl rfl Tryz.runUnderlying90 rfl rfl Tryz.sizeOf3 ?_
    refine J.want rfl rfl rfl rfl ?_
    refine J.ldo 0 rfl rfl rfl rfl rfl Tryz.isAgg3 rfl rfl ?_
    refine J.want rfl rfl rfl rfl ?_
    refine J.fld (k := 0) rfl rfl rfl rfl rfl Tryz.runUnderlying50 rfl rfl Tryz.sizeOf44 ?_
    refine J.want rfl rfl rfl rfl ?_
    refine J.ld rfl rfl rfl rfl rfl Tryz.isAgg44 (fun w' h => by rw [World.cell?, h.below.block ba (heap_lt h1), h1]; rfl) ?_
    refine J.want rfl rfl rfl rfl ?_
    refine J.len rfl rfl rfl rfl rfl Tryz.runUnderlying44 ?_
    refine J.want rfl rfl rfl rfl ?_
    refine J.bin rfl rfl rfl rfl rfl rfl (fun w => rfl) ?_
    refine J.pick rfl rfl rfl rfl rfl rfl ?_
    refine J.move rfl rfl rfl rfl rfl ?_
    rcases Decidable.em (x.1 ≥ n) with e2 | e2
    · have e : badW n x = true := by unfold badW; rw [dec_t e2]; simp
      rw [e, dec_t e2]
      refine J.pass rfl rfl rfl rfl rfl (by intro h; cases h) ?_
      refine J.pass rfl rfl rfl rfl rfl (by intro h; cases h) ?_
      refine J.pass rfl rfl rfl rfl rfl (by intro h; cases h) ?_
      refine J.pass rfl rfl rfl rfl rfl (by intro h; cases h) ?_
      refine J.pick rfl rfl rfl rfl rfl rfl ?_
      refine J.asg rfl rfl rfl rfl rfl ?_
      refine J.nil ?_
      refine C.ret ?_
      exact fin1 rfl (RV.tmp rfl) (fun w' h => h.ret0)
    · have e : badW n x = oddS x.2 := by unfold badW; rw [dec_f e1, dec_f e2]; rfl
      rw [e, dec_f e2]
      refine J.want rfl rfl rfl rfl ?_
      refine J.ld rfl rfl rfl rfl rfl Tryz.isAgg134 (fun w' h => by rw [World.cell?, h.below.block bo (heap_lt h3), h3]; rfl) ?_
      refine J.want rfl rfl rfl rfl ?_
      refine J.fld (k := 1) rfl rfl rfl rfl rfl Tryz.runUnderlying90 rfl rfl Tryz.sizeOf22 ?_
      refine J.want rfl rfl rfl rfl ?_
      refine J.ldo 0 rfl rfl rfl rfl rfl Tryz.isAgg22 rfl rfl ?_
      refine J.want rfl rfl rfl rfl ?_
      refine J.callf0 rfl rfl rfl rfl rfl rfl Tryz.call83 (fun w h => odd_calls w _ _ (h.ba hx)) ?_
      refine J.pick rfl rfl rfl rfl rfl rfl ?_
      refine J.asg rfl rfl rfl rfl rfl ?_
      refine J.nil ?_
      refine C.ret ?_
      exact fin1 rfl (RV.tmp rfl) (fun w' h => h.ret0)
end Go.Proofs.YtiminmnmeknioaaGreatDoor

/- disk.Check: the search among writes, whole. -/
set_option linter.unusedVariables false
namespace Go.Proofs.YtiminmnmeknioaaGreatDoor
open Go Go.RowKit

abbrev fBad (ba bo : Nat) : Value := .func (.func 84) #[] #[.pointer (some ⟨ba, 0, none⟩), .pointer (some ⟨bo, 0, none⟩)]
theorem cells2 {w : World} {b o : Nat} {u v : Value} (h0 : w.cell? ⟨b, o, none⟩ = some u) (h1 : w.cell? ⟨b, o + 1, none⟩ = some v) (j : Nat) (x : Value) (hx : [u, v][j]? = some x) : w.cell? ((⟨b, o, none⟩ : Addr).add j) = some x := by
  rw [Addr.add_mid]
  match j, hx with
  | 0, hx => injection hx with hx; subst hx; exact h0
  | 1, hx => injection hx with hx; subst hx; exact h1
theorem indexW_calls (w : World) (v : Value) (xs : List Wr) (ba bo : Nat) (cv : Value) (As : Option Addr) (n cs : Nat) (hx : WSA w v xs) (k1 : w.heap[ba]? = some (.cells #[.slice As n cs, cv] 50 (0, 0))) (k3 : w.heap[bo]? = some (.cells #[fOdd] 134 (0, 0))) : Calls Tryz.prog 106 #[v, fBad ba bo] w (RetV w (fun z => ∃ i : Int, z = vi i ∧ (0 ≤ i ↔ xs.any (badW n) = true))) := by
  obtain ⟨A, c, rfl, h1, h2, h3⟩ := hx.form
  refine calls_of_C Tryz.func106 rfl Tryz.ntmps106 (Nat.le_of_ble_eq_true rfl) ?_
  refine C.less (L' := [(0, _), (1, _)]) ?_ (Sub.cons rfl (Sub.cons rfl (Sub.nil _))) (fun w h => h)
  refine C.seq ?_
  refine C.region ?_
  refine J.asg rfl rfl rfl rfl rfl ?_
  refine J.nil ?_
  refine C.seq ?_
  refine C.seq ?_
  refine C.region ?_
  refine J.move rfl rfl rfl rfl rfl ?_
  refine J.len rfl rfl rfl rfl rfl Tryz.runUnderlying48 ?_
  refine J.move rfl rfl rfl rfl rfl ?_
  refine J.nil ?_
  refine C.block ?_
  refine C.loop (fun i : Nat => i ≤ xs.length ∧ (xs.take i).any (badW n) = false) (fun i => [(0, .slice A xs.length c), (1, fBad ba bo), (7, vi (xs.length : Int)), (8, vi (i : Int))]) (fun i => []) (fun i => xs.length - i) 0 ⟨Nat.zero_le _, rfl⟩ ?_ ?_ ?_
  · exact (Sub.cons rfl (Sub.cons rfl (Sub.cons rfl (Sub.cons rfl (Sub.nil _)))))
  · exact fun w h => h
  rintro i ⟨hi, hpre⟩
  refine C.seq ?_
  refine C.region ?_
  refine J.bin rfl rfl rfl rfl rfl rfl (fun w => rfl) ?_
  refine J.nil ?_
  refine C.seq ?_
  refine C.cond rfl (fun h => ?_) (fun h => ?_)
  · have hlt : i < xs.length := by have := of_decide_eq_true h; omega
    obtain ⟨b, o, rfl, hb, hcell⟩ := h3 (by omega)
    obtain ⟨u, hu0, hu1, hr⟩ := hcell i xs[i] (by simp)
    refine C.skip ?_
    refine C.seq ?_
    refine C.block ?_
    refine C.seq ?_
    refine C.region ?_
    refine J.move rfl rfl rfl rfl rfl ?_
    refine J.asg rfl rfl rfl rfl rfl ?_
    refine J.nil ?_
    refine C.seq ?_
    refine C.region ?_
    refine J.move rfl rfl rfl rfl rfl ?_
    refine J.move rfl rfl rfl rfl rfl ?_
    refine J.move rfl rfl rfl rfl rfl ?_
    first | refine J.idxn rfl rfl rfl rfl rfl rfl Tryz.runUnderlying48 Tryz.sizeOf90 (by omega) ?_ | refine J.idx rfl rfl rfl rfl rfl rfl Tryz.runUnderlying48 Tryz.sizeOf90 (by omega) ?_
    refine J.ldn (cs := [_, _]) rfl rfl rfl rfl rfl Tryz.isAgg90 Tryz.sizeOf90 (fun w h => cells2 (cellOld h hu0) (cellOld h hu1)) ?_
    refine J.callf0 rfl rfl rfl rfl rfl rfl Tryz.call84 (fun w h => bad_calls w ba bo _ u cv As n cs ((h.below.block ba (heap_lt k1)).trans k1) ((h.below.block bo (heap_lt k3)).trans k3) (h.ba hr)) ?_
    refine J.nil ?_
    refine C.cond rfl (fun h5 => ?_) (fun h5 => ?_)
    · refine C.seq ?_
      refine C.region ?_
      refine J.move rfl rfl rfl rfl rfl ?_
      refine J.asg rfl rfl rfl rfl rfl ?_
      refine J.nil ?_
      refine C.ret ?_
      exact fin1 rfl (RV.tmp rfl) (fun w' h => h.retV ⟨i, rfl, ⟨fun _ => List.any_eq_true.2 ⟨xs[i], List.getElem_mem _, h5⟩, fun _ => by omega⟩⟩)
    · refine C.skip ?_
      refine C.region ?_
      refine J.bin rfl rfl rfl rfl rfl rfl (fun w => ra_add (by omega)) ?_
      refine J.move rfl rfl rfl rfl rfl ?_
      refine J.nil ?_
      exact ⟨rfl, i + 1, ⟨hlt, any_take_snoc i hlt hpre h5⟩, by omega, (Sub.cons rfl (Sub.cons rfl (Sub.cons rfl (Sub.cons rfl (Sub.nil _))))), fun w h => h⟩
  · have hge : i = xs.length := by have := of_decide_eq_false h; omega
    subst hge
    rw [List.take_length] at hpre
    refine C.exit rfl ?_
    refine C.seq ?_
    refine C.region ?_
    refine J.asg rfl rfl rfl rfl rfl ?_
    refine J.nil ?_
    refine C.ret ?_
    exact fin1 rfl (RV.tmp rfl) (fun w' h => h.retV ⟨-1, rfl, ⟨fun h => absurd h (by omega), fun h => by rw [hpre] at h; cases h⟩⟩)
theorem containsW_calls (w : World) (v : Value) (xs : List Wr) (ba bo : Nat) (cv : Value) (As : Option Addr) (n cs : Nat) (hx : WSA w v xs) (k1 : w.heap[ba]? = some (.cells #[.slice As n cs, cv] 50 (0, 0))) (k3 : w.heap[bo]? = some (.cells #[fOdd] 134 (0, 0))) : Calls Tryz.prog 86 #[v, fBad ba bo] w (Ret0 w (.bool (xs.any (badW n)))) := by
  refine calls_of_C Tryz.func86 rfl Tryz.ntmps86 (Nat.le_of_ble_eq_true rfl) ?_
  refine C.less (L' := [(0, _), (1, _)]) ?_ (Sub.cons rfl (Sub.cons rfl (Sub.nil _))) (fun w h => h)
  refine C.seq ?_
  refine C.region ?_
  refine J.asg rfl rfl rfl rfl rfl ?_
  refine J.nil ?_
  refine C.seq ?_
  refine C.region ?_
  refine J.move rfl rfl rfl rfl rfl ?_
  refine J.move rfl rfl rfl rfl rfl ?_
  refine J.callv rfl rfl rfl rfl rfl Tryz.call106 (fun w h => indexW_calls w _ xs ba bo cv As n cs (h.wsa hx) ((h.below.block ba (heap_lt k1)).trans k1) ((h.below.block bo (heap_lt k3)).trans k3))  ?_
  rintro v7 ⟨i, rfl, hi⟩
  refine J.bin rfl rfl rfl rfl rfl rfl (fun w => rfl) ?_
  refine J.asg rfl rfl rfl rfl rfl ?_
  refine J.nil ?_
  refine C.ret ?_
  rw [show decide (i ≥ 0) = xs.any (badW n) by rw [Bool.eq_iff_iff, decide_eq_true_iff]; exact hi]
  exact fin1 rfl (RV.tmp rfl) (fun w' h => h.ret0)
end Go.Proofs.YtiminmnmeknioaaGreatDoor

/- disk.Check. -/
set_option linter.unusedVariables false
namespace Go.Proofs.YtiminmnmeknioaaGreatDoor
open Go Go.RowKit

def dkBad (d : Dk) : Bool := decide (d.secs.length < 1) || decide (d.secs.length > 2048) || decide (d.cache.length > 4096) || d.secs.any oddS || d.cache.any (badW d.secs.length)
def dkErr (d : Dk) : Int := if dkBad d then 9 else 0
theorem Check_dk_calls (w : World) (d : Dk) (sv cv : Value) (hs : BSA w sv d.secs) (hc : WSA w cv d.cache) : Calls Tryz.prog 49 #[.agg #[sv, cv]] w (Ret0 w (vi (dkErr d))) := by
  have hs0 := hs
  have hc0 := hc
  obtain ⟨A, c, rfl, h1, h2, h3⟩ := hs.form
  obtain ⟨A2, c2, rfl, k1, k2, k3⟩ := hc.form
  refine calls_of_C Tryz.func49 rfl Tryz.ntmps49 (Nat.le_of_ble_eq_true rfl) ?_
  refine C.less (L' := [(0, _)]) ?_ (Sub.cons rfl (Sub.nil _)) (fun w h => h)
  refine C.seq ?_
  refine C.region ?_
  first | refine J.boxc rfl rfl rfl rfl rfl rfl (fun b1 => ?_) | refine J.box rfl rfl rfl rfl rfl (fun b1 => ?_)
  refine J.asg rfl rfl rfl rfl rfl ?_
  refine J.nil ?_
  refine C.seq ?_
  refine C.region ?_
  refine J.allocc rfl rfl rfl rfl Tryz.zeroValue134 rfl (fun b3 => ?_)
  first | refine J.stwc 0 rfl rfl rfl rfl rfl rfl Tryz.sizeOf134 (by first | rfl | assumption | simp [Value.cells, Value.oneCell']) rfl rfl ?_ | refine J.stw 0 rfl rfl rfl rfl rfl rfl Tryz.sizeOf134 (by first | rfl | assumption | simp [Value.cells, Value.oneCell']) rfl rfl ?_
  refine J.nil ?_
  refine C.seq ?_
  refine C.region ?_
  refine J.mkfn2 rfl rfl rfl rfl rfl rfl ?_
  refine J.asg rfl rfl rfl rfl rfl ?_
  refine J.nil ?_
  refine C.seq ?_
  refine C.seq ?_
  refine C.region ?_
  refine J.fld (k := 0) rfl rfl rfl rfl rfl Tryz.runUnderlying50 rfl rfl Tryz.sizeOf44 ?_
  refine J.ldo 1 rfl rfl rfl rfl rfl Tryz.isAgg44 rfl rfl ?_
  refine J.len rfl rfl rfl rfl rfl Tryz.runUnderlying44 ?_
  refine J.bin rfl rfl rfl rfl rfl rfl (fun w => rfl) ?_
  refine J.move rfl rfl rfl rfl rfl ?_
  rcases Decidable.em ((d.secs.length : Int) < 1) with e1 | e1
  · have e : dkErr d = 9 := by unfold dkErr dkBad; rw [dec_t (show d.secs.length < 1 by omega)]; simp
    rw [e, dec_t e1]
    refine J.pass rfl rfl rfl rfl rfl (by intro h; cases h) ?_
    refine J.pass rfl rfl rfl rfl rfl (by intro h; cases h) ?_
    refine J.pass rfl rfl rfl rfl rfl (by intro h; cases h) ?_
    refine J.pass rfl rfl rfl rfl rfl (by intro h; cases h) ?_
    refine J.pick rfl rfl rfl rfl rfl rfl ?_
    refine J.move rfl rfl rfl rfl rfl ?_
    refine J.pass rfl rfl rfl rfl rfl (by intro h; cases h) ?_
    refine J.pass rfl rfl rfl rfl rfl (by intro h; cases h) ?_
    refine J.pass rfl rfl rfl rfl rfl (by intro h; cases h) ?_
    refine J.pass rfl rfl rfl rfl rfl (by intro h; cases h) ?_
    refine J.pick rfl rfl rfl rfl rfl rfl ?_
    refine J.move rfl rfl rfl rfl rfl ?_
    refine J.pass rfl rfl rfl rfl rfl (by intro h; cases h) ?_
    refine J.pass rfl rfl rfl rfl rfl (by intro h; cases h) ?_
    refine J.pass rfl rfl rfl rfl rfl (by intro h; cases h) ?_
    refine J.pass rfl rfl rfl rfl rfl (by intro h; cases h) ?_
    refine J.pick rfl rfl rfl rfl rfl rfl ?_
    refine J.move rfl rfl rfl rfl rfl ?_
    refine J.pass rfl rfl rfl rfl rfl (by intro h; cases h) ?_
    refine J.pass rfl rfl rfl rfl rfl (by intro h; cases h) ?_
    refine J.pass rfl rfl rfl rfl rfl (by intro h; cases h) ?_
    refine J.pass rfl rfl rfl rfl rfl (by intro h; cases h) ?_
    refine J.pick rfl rfl rfl rfl rfl rfl ?_
    refine J.nil ?_
    refine C.cond_t rfl ?_
    refine C.seq ?_
    refine C.region ?_
    refine J.asg rfl rfl rfl rfl rfl ?_
    refine J.nil ?_
    refine C.ret ?_
    exact fin1 rfl (RV.tmp rfl) (fun w' h => h.ret0)
  · rw [dec_f e1]
    refine J.want rfl rfl rfl rfl ?_
    refine J.fld (k := 0) rfl rfl rfl rfl rfl Tryz.runUnderlying50 rfl rfl Tryz.sizeOf44 ?_
    refine J.want rfl rfl rfl rfl ?_
    refine J.ldo 1 rfl rfl rfl rfl rfl Tryz.isAgg44 rfl rfl ?_
    refine J.want rfl rfl rfl rfl ?_
    refine J.len rfl rfl rfl rfl rfl Tryz.runUnderlying44 ?_
    refine J.want rfl rfl rfl rfl ?_
    refine J.bin rfl rfl rfl rfl rfl rfl (fun w => rfl) ?_
    refine J.pick rfl rfl rfl rfl rfl rfl ?_
    refine J.move rfl rfl rfl rfl rfl ?_
    rcases Decidable.em ((d.secs.length : Int) > 2048) with e2 | e2
    · have e : dkErr d = 9 := by unfold dkErr dkBad; rw [dec_t (show d.secs.length > 2048 by omega)]; simp
      rw [e, dec_t e2]
      refine J.pass rfl rfl rfl rfl rfl (by intro h; cases h) ?_
      refine J.pass rfl rfl rfl rfl rfl (by intro h; cases h) ?_
      refine J.pass rfl rfl rfl rfl rfl (by intro h; cases h) ?_
      refine J.pass rfl rfl rfl rfl rfl (by intro h; cases h) ?_
      refine J.pick rfl rfl rfl rfl rfl rfl ?_
      refine J.move rfl rfl rfl rfl rfl ?_
      refine J.pass rfl rfl rfl rfl rfl (by intro h; cases h) ?_
      refine J.pass rfl rfl rfl rfl rfl (by intro h; cases h) ?_
      refine J.pass rfl rfl rfl rfl rfl (by intro h; cases h) ?_
      refine J.pass rfl rfl rfl rfl rfl (by intro h; cases h) ?_
      refine J.pick rfl rfl rfl rfl rfl rfl ?_
      refine J.move rfl rfl rfl rfl rfl ?_
      refine J.pass rfl rfl rfl rfl rfl (by intro h; cases h) ?_
      refine J.pass rfl rfl rfl rfl rfl (by intro h; cases h) ?_
      refine J.pass rfl rfl rfl rfl rfl (by intro h; cases h) ?_
      refine J.pass rfl rfl rfl rfl rfl (by intro h; cases h) ?_
      refine J.pick rfl rfl rfl rfl rfl rfl ?_
      refine J.nil ?_
      refine C.cond_t rfl ?_
      refine C.seq ?_
      refine C.region ?_
      refine J.asg rfl rfl rfl rfl rfl ?_
      refine J.nil ?_
      refine C.ret ?_
      exact fin1 rfl (RV.tmp rfl) (fun w' h => h.ret0)
    · rw [dec_f e2]
      refine J.want rfl rfl rfl rfl ?_
      refine J.fld (k := 1) rfl rfl rfl rfl rfl Tryz.runUnderlying50 rfl rfl Tryz.sizeOf48 ?_
      refine J.want rfl rfl rfl rfl ?_
      refine J.ldo 1 rfl rfl rfl rfl rfl Tryz.isAgg48 rfl rfl ?_
      refine J.want rfl rfl rfl rfl ?_
      refine J.len rfl rfl rfl rfl rfl Tryz.runUnderlying48 ?_
      refine J.want rfl rfl rfl rfl ?_
      refine J.bin rfl rfl rfl rfl rfl rfl (fun w => rfl) ?_
      refine J.pick rfl rfl rfl rfl rfl rfl ?_
      refine J.move rfl rfl rfl rfl rfl ?_
      rcases Decidable.em ((d.cache.length : Int) > 4096) with e3 | e3
      · have e : dkErr d = 9 := by unfold dkErr dkBad; rw [dec_t (show d.cache.length > 4096 by omega)]; simp
        rw [e, dec_t e3]
        refine J.pass rfl rfl rfl rfl rfl (by intro h; cases h) ?_
        refine J.pass rfl rfl rfl rfl rfl (by intro h; cases h) ?_
        refine J.pass rfl rfl rfl rfl rfl (by intro h; cases h) ?_
        refine J.pass rfl rfl rfl rfl rfl (by intro h; cases h) ?_
        refine J.pick rfl rfl rfl rfl rfl rfl ?_
        refine J.move rfl rfl rfl rfl rfl ?_
        refine J.pass rfl rfl rfl rfl rfl (by intro h; cases h) ?_
        refine J.pass rfl rfl rfl rfl rfl (by intro h; cases h) ?_
        refine J.pass rfl rfl rfl rfl rfl (by intro h; cases h) ?_
        refine J.pass rfl rfl rfl rfl rfl (by intro h; cases h) ?_
        refine J.pick rfl rfl rfl rfl rfl rfl ?_
        refine J.nil ?_
        refine C.cond_t rfl ?_
        refine C.seq ?_
        refine C.region ?_
        refine J.asg rfl rfl rfl rfl rfl ?_
        refine J.nil ?_
        refine C.ret ?_
        exact fin1 rfl (RV.tmp rfl) (fun w' h => h.ret0)
      · rw [dec_f e3]
        refine J.want rfl rfl rfl rfl ?_
        refine J.fld (k := 0) rfl rfl rfl rfl rfl Tryz.runUnderlying50 rfl rfl Tryz.sizeOf44 ?_
        refine J.want rfl rfl rfl rfl ?_
        refine J.ldo 1 rfl rfl rfl rfl rfl Tryz.isAgg44 rfl rfl ?_
        refine J.want rfl rfl rfl rfl ?_
        refine J.ldo 0 rfl rfl rfl rfl rfl Tryz.isAgg134 rfl rfl ?_
        refine J.want rfl rfl rfl rfl ?_
        refine J.call0 rfl rfl rfl rfl rfl Tryz.call85 (fun w h => containsS_calls w _ d.secs (h.bsa hs0)) ?_
        refine J.pick rfl rfl rfl rfl rfl rfl ?_
        refine J.move rfl rfl rfl rfl rfl ?_
        rcases Bool.eq_false_or_eq_true (d.secs.any oddS) with e4 | e4
        · have e : dkErr d = 9 := by unfold dkErr dkBad; rw [e4]; simp
          rw [e, e4]
          refine J.pass rfl rfl rfl rfl rfl (by intro h; cases h) ?_
          refine J.pass rfl rfl rfl rfl rfl (by intro h; cases h) ?_
          refine J.pass rfl rfl rfl rfl rfl (by intro h; cases h) ?_
          refine J.pass rfl rfl rfl rfl rfl (by intro h; cases h) ?_
          refine J.pick rfl rfl rfl rfl rfl rfl ?_
          refine J.nil ?_
          refine C.cond_t rfl ?_
          refine C.seq ?_
          refine C.region ?_
          refine J.asg rfl rfl rfl rfl rfl ?_
          refine J.nil ?_
          refine C.ret ?_
          exact fin1 rfl (RV.tmp rfl) (fun w' h => h.ret0)
        · rw [e4]
          refine J.want rfl rfl rfl rfl ?_
          refine J.fld (k := 1) rfl rfl rfl rfl rfl Tryz.runUnderlying50 rfl rfl Tryz.sizeOf48 ?_
          refine J.want rfl rfl rfl rfl ?_
          refine J.ldo 1 rfl rfl rfl rfl rfl Tryz.isAgg48 rfl rfl ?_
          refine J.want rfl rfl rfl rfl ?_
          refine J.move rfl rfl rfl rfl rfl ?_
          refine J.want rfl rfl rfl rfl ?_
          refine J.call0 rfl rfl rfl rfl rfl Tryz.call86 (fun w h => containsW_calls w _ d.cache b1 b3 _ A d.secs.length c (h.wsa hc0) (h.get 1 rfl) (h.get 0 rfl)) ?_
          refine J.pick rfl rfl rfl rfl rfl rfl ?_
          refine J.nil ?_
          have e : dkErr d = if d.cache.any (badW d.secs.length) then 9 else 0 := by unfold dkErr dkBad; rw [dec_f (show ¬ d.secs.length < 1 by omega), dec_f (show ¬ d.secs.length > 2048 by omega), dec_f (show ¬ d.cache.length > 4096 by omega), e4]; rfl
          refine C.cond rfl (fun h5 => ?_) (fun h5 => ?_)
          · rw [e, if_pos h5]
            refine C.seq ?_
            refine C.region ?_
            refine J.asg rfl rfl rfl rfl rfl ?_
            refine J.nil ?_
            refine C.ret ?_
            exact fin1 rfl (RV.tmp rfl) (fun w' h => h.ret0)
          · rw [e, if_neg (by rw [h5]; simp)]
            refine C.skip ?_
            refine C.seq ?_
            refine C.region ?_
            refine J.asg rfl rfl rfl rfl rfl ?_
            refine J.nil ?_
            refine C.ret ?_
            exact fin1 rfl (RV.tmp rfl) (fun w' h => h.ret0)
end Go.Proofs.YtiminmnmeknioaaGreatDoor

/- room. -/
set_option linter.unusedVariables false
namespace Go.Proofs.YtiminmnmeknioaaGreatDoor
open Go Go.RowKit

def roomOk (len : Nat) (s n : Int) : Bool := decide (0 ≤ s ∧ 0 ≤ n ∧ s ≤ len ∧ n ≤ len - s)
theorem room_calls (w : World) (A : Option Addr) (len c : Nat) (cv : Value) (s n : Int) (hl : len ≤ 9223372036854775807) : Calls Tryz.prog 50 #[.agg #[.slice A len c, cv], vi s, vi n] w (Ret0 w (.bool (roomOk len s n))) := by
  refine calls_of_C Tryz.func50 rfl Tryz.ntmps50 (Nat.le_of_ble_eq_true rfl) ?_
  refine C.less (L' := [(0, _), (1, _), (2, _)]) ?_ (Sub.cons rfl (Sub.cons rfl (Sub.cons rfl (Sub.nil _)))) (fun w h => h)
  refine C.seq ?_
  refine C.region ?_
  first | refine J.boxc rfl rfl rfl rfl rfl rfl (fun b3 => ?_) | refine J.box rfl rfl rfl rfl rfl (fun b3 => ?_)
  refine J.asg rfl rfl rfl rfl rfl ?_
  refine J.nil ?_
  refine C.seq ?_
  refine C.region ?_
  refine J.move rfl rfl rfl rfl rfl ?_
  refine J.bin rfl rfl rfl rfl rfl rfl (fun w => rfl) ?_
  refine J.move rfl rfl rfl rfl rfl ?_
  rcases Decidable.em (s ≥ 0) with e1 | e1
  · rw [dec_t e1]
    refine J.want rfl rfl rfl rfl ?_
    refine J.move rfl rfl rfl rfl rfl ?_
    refine J.want rfl rfl rfl rfl ?_
    refine J.bin rfl rfl rfl rfl rfl rfl (fun w => rfl) ?_
    refine J.pick rfl rfl rfl rfl rfl rfl ?_
    refine J.move rfl rfl rfl rfl rfl ?_
    rcases Decidable.em (n ≥ 0) with e2 | e2
    · rw [dec_t e2]
      refine J.want rfl rfl rfl rfl ?_
      refine J.move rfl rfl rfl rfl rfl ?_
      refine J.want rfl rfl rfl rfl ?_
      refine J.fld (k := 0) rfl rfl rfl rfl rfl Tryz.runUnderlying50 rfl rfl Tryz.sizeOf44 ?_
      refine J.want rfl rfl rfl rfl ?_
      refine J.ldo 0 rfl rfl rfl rfl rfl Tryz.isAgg44 rfl rfl ?_
      refine J.want rfl rfl rfl rfl ?_
      refine J.len rfl rfl rfl rfl rfl Tryz.runUnderlying44 ?_
      refine J.want rfl rfl rfl rfl ?_
      refine J.bin rfl rfl rfl rfl rfl rfl (fun w => rfl) ?_
      refine J.pick rfl rfl rfl rfl rfl rfl ?_
      refine J.move rfl rfl rfl rfl rfl ?_
      rcases Decidable.em (s ≤ len) with e3 | e3
      · rw [dec_t e3]
        refine J.want rfl rfl rfl rfl ?_
        refine J.move rfl rfl rfl rfl rfl ?_
        refine J.want rfl rfl rfl rfl ?_
        refine J.fld (k := 0) rfl rfl rfl rfl rfl Tryz.runUnderlying50 rfl rfl Tryz.sizeOf44 ?_
        refine J.want rfl rfl rfl rfl ?_
        refine J.ldo 0 rfl rfl rfl rfl rfl Tryz.isAgg44 rfl rfl ?_
        refine J.want rfl rfl rfl rfl ?_
        refine J.len rfl rfl rfl rfl rfl Tryz.runUnderlying44 ?_
        refine J.want rfl rfl rfl rfl ?_
        refine J.move rfl rfl rfl rfl rfl ?_
        refine J.want rfl rfl rfl rfl ?_
        refine J.bin rfl rfl rfl rfl rfl rfl (fun w => ra_sub (by omega)) ?_
        refine J.want rfl rfl rfl rfl ?_
        refine J.bin rfl rfl rfl rfl rfl rfl (fun w => rfl) ?_
        refine J.pick rfl rfl rfl rfl rfl rfl ?_
        refine J.asg rfl rfl rfl rfl rfl ?_
        refine J.nil ?_
        refine C.ret ?_
        rw [show decide (n ≤ (len : Int) - s) = roomOk len s n by unfold roomOk; congr 1; simp; omega]
        exact fin1 rfl (RV.tmp rfl) (fun w' h => h.ret0)
      · rw [dec_f e3, show roomOk len s n = false by unfold roomOk; exact decide_eq_false (by omega)]
        refine J.pass rfl rfl rfl rfl rfl (by intro h; cases h) ?_
        refine J.pass rfl rfl rfl rfl rfl (by intro h; cases h) ?_
        refine J.pass rfl rfl rfl rfl rfl (by intro h; cases h) ?_
        refine J.pass rfl rfl rfl rfl rfl (by intro h; cases h) ?_
        refine J.pass rfl rfl rfl rfl rfl (by intro h; cases h) ?_
        refine J.pass rfl rfl rfl rfl rfl (by intro h; cases h) ?_
        refine J.pass rfl rfl rfl rfl rfl (by intro h; cases h) ?_
        refine J.pick rfl rfl rfl rfl rfl rfl ?_
        refine J.asg rfl rfl rfl rfl rfl ?_
        refine J.nil ?_
        refine C.ret ?_
        exact fin1 rfl (RV.tmp rfl) (fun w' h => h.ret0)
    · rw [dec_f e2, show roomOk len s n = false by unfold roomOk; exact decide_eq_false (by omega)]
      refine J.pass rfl rfl rfl rfl rfl (by intro h; cases h) ?_
      refine J.pass rfl rfl rfl rfl rfl (by intro h; cases h) ?_
      refine J.pass rfl rfl rfl rfl rfl (by intro h; cases h) ?_
      refine J.pass rfl rfl rfl rfl rfl (by intro h; cases h) ?_
      refine J.pass rfl rfl rfl rfl rfl (by intro h; cases h) ?_
      refine J.pick rfl rfl rfl rfl rfl rfl ?_
      refine J.move rfl rfl rfl rfl rfl ?_
      refine J.pass rfl rfl rfl rfl rfl (by intro h; cases h) ?_
      refine J.pass rfl rfl rfl rfl rfl (by intro h; cases h) ?_
      refine J.pass rfl rfl rfl rfl rfl (by intro h; cases h) ?_
      refine J.pass rfl rfl rfl rfl rfl (by intro h; cases h) ?_
      refine J.pass rfl rfl rfl rfl rfl (by intro h; cases h) ?_
      refine J.pass rfl rfl rfl rfl rfl (by intro h; cases h) ?_
      refine J.pass rfl rfl rfl rfl rfl (by intro h; cases h) ?_
      refine J.pick rfl rfl rfl rfl rfl rfl ?_
      refine J.asg rfl rfl rfl rfl rfl ?_
      refine J.nil ?_
      refine C.ret ?_
      exact fin1 rfl (RV.tmp rfl) (fun w' h => h.ret0)
  · rw [dec_f e1, show roomOk len s n = false by unfold roomOk; exact decide_eq_false (by omega)]
    refine J.pass rfl rfl rfl rfl rfl (by intro h; cases h) ?_
    refine J.pass rfl rfl rfl rfl rfl (by intro h; cases h) ?_
    refine J.pick rfl rfl rfl rfl rfl rfl ?_
    refine J.move rfl rfl rfl rfl rfl ?_
    refine J.pass rfl rfl rfl rfl rfl (by intro h; cases h) ?_
    refine J.pass rfl rfl rfl rfl rfl (by intro h; cases h) ?_
    refine J.pass rfl rfl rfl rfl rfl (by intro h; cases h) ?_
    refine J.pass rfl rfl rfl rfl rfl (by intro h; cases h) ?_
    refine J.pass rfl rfl rfl rfl rfl (by intro h; cases h) ?_
    refine J.pick rfl rfl rfl rfl rfl rfl ?_
    refine J.move rfl rfl rfl rfl rfl ?_
    refine J.pass rfl rfl rfl rfl rfl (by intro h; cases h) ?_
    refine J.pass rfl rfl rfl rfl rfl (by intro h; cases h) ?_
    refine J.pass rfl rfl rfl rfl rfl (by intro h; cases h) ?_
    refine J.pass rfl rfl rfl rfl rfl (by intro h; cases h) ?_
    refine J.pass rfl rfl rfl rfl rfl (by intro h; cases h) ?_
    refine J.pass rfl rfl rfl rfl rfl (by intro h; cases h) ?_
    refine J.pass rfl rfl rfl rfl rfl (by intro h; cases h) ?_
    refine J.pick rfl rfl rfl rfl rfl rfl ?_
    refine J.asg rfl rfl rfl rfl rfl ?_
    refine J.nil ?_
    refine C.ret ?_
    exact fin1 rfl (RV.tmp rfl) (fun w' h => h.ret0)
end Go.Proofs.YtiminmnmeknioaaGreatDoor

/- Copies of rows of slices. -/
set_option linter.unusedVariables false
namespace Go.Proofs.YtiminmnmeknioaaGreatDoor
open Go Go.RowKit

/-- The slices that a slice of slices holds. -/
theorem RBS.vals {fp : Nat → Prop} {w : World} {v : Value} {xss : List (List UInt8)} (h : RBS fp w v xss) : ∃ (A : Option Addr) (c : Nat) (vs : List Value), v = .slice A xss.length c ∧ xss.length ≤ c ∧ c ≤ 9223372036854775807 ∧ vs.length = xss.length ∧ (∀ (j : Nat) u x, vs[j]? = some u → xss[j]? = some x → RB fp w u x) ∧ (0 < xss.length → ∃ b o, A = some ⟨b, o, none⟩ ∧ fp b ∧ ∀ j u, vs[j]? = some u → w.cell? ⟨b, o + j, none⟩ = some u) := by
  obtain ⟨A, c, rfl, h1, h2, h3⟩ := h.form
  rcases Nat.eq_zero_or_pos xss.length with h0 | h0
  · exact ⟨A, c, [], rfl, h1, h2, by simp [h0], fun j u x hu => by simp at hu, fun h => by omega⟩
  · obtain ⟨b, o, rfl, hb, hc⟩ := h3 h0
    refine ⟨_, c, (List.range xss.length).map (fun j => (w.cell? ⟨b, o + j, none⟩).getD .nilIface), rfl, h1, h2, by simp, fun j u x hu hx => ?_, fun _ => ⟨b, o, rfl, hb, fun j u hu => ?_⟩⟩
    · obtain ⟨u', hu', hr⟩ := hc j x hx
      have hj : j < xss.length := (List.getElem?_eq_some_iff.1 hx).1
      rw [List.getElem?_map, List.getElem?_range hj] at hu
      simp only [Option.map_some, hu', Option.getD_some, Option.some.injEq] at hu
      subst hu
      exact hr
    · have hj : j < xss.length := by have := (List.getElem?_eq_some_iff.1 hu).1; simpa using this
      obtain ⟨u', hu', hr⟩ := hc j xss[j] (by simp)
      rw [List.getElem?_map, List.getElem?_range hj] at hu
      simp only [Option.map_some, hu', Option.getD_some, Option.some.injEq] at hu
      subst hu
      exact hu'
end Go.Proofs.YtiminmnmeknioaaGreatDoor

/- bytes.Clone as a row. -/
set_option linter.unusedVariables false
namespace Go.Proofs.YtiminmnmeknioaaGreatDoor
open Go Go.RowKit

theorem CloneRow_calls (w : World) (v : Value) (xs : List UInt8) (hx : BA w v xs) (hs : xs.length ≤ 140737488355328) : Calls Tryz.prog 95 #[v] w (Ret w (fun u r => r = rowR 5 1 u xs.length (xs.map vu8))) := by
  obtain ⟨A, c, rfl, h1, h2, h3⟩ := hx.form
  refine calls_of_C Tryz.func95 rfl Tryz.ntmps95 (Nat.le_of_ble_eq_true rfl) ?_
  refine C.less (L' := [(0, _)]) ?_ (Sub.cons rfl (Sub.nil _)) (fun w h => h)
  refine C.seq ?_
  refine C.region ?_
  refine J.asg rfl rfl rfl rfl rfl ?_
  refine J.nil ?_
  refine C.seq ?_
  refine C.seq ?_
  refine C.region ?_
  refine J.move rfl rfl rfl rfl rfl ?_
  refine J.binAny rfl rfl rfl rfl rfl rfl (fun w => slice_eql_nil Tryz.underlying22 _ _ _) ?_
  refine J.nil ?_
  refine C.cond rfl (fun h => ?_) (fun h => ?_)
  · have hA : A = none := by simpa using h
    obtain rfl : xs = [] := by
      rcases Nat.eq_zero_or_pos xs.length with h0 | h0
      · exact List.eq_nil_of_length_eq_zero h0
      · obtain ⟨b, o, e, _⟩ := h3 h0
        rw [hA] at e; cases e
    refine C.seq ?_
    refine C.region ?_
    refine J.asg rfl rfl rfl rfl rfl ?_
    refine J.nil ?_
    refine C.ret ?_
    exact fin1 rfl (RV.tmp rfl) (fun w' h => (h.nilRow 5 1).ret 0 rfl rfl)
  · refine C.skip ?_
    refine C.seq ?_
    refine C.region ?_
    refine J.blds (vs := []) (cells := []) rfl rfl rfl rfl rfl Tryz.zeroValue5 Tryz.runUnderlying22 Tryz.sizeOf5 rfl rfl rfl rfl (fun b5 => ?_)
    refine J.move rfl rfl rfl rfl rfl ?_
    refine J.less (M' := [rowR 5 1 _ 0 []]) ?_ (Sub.refl _) (fun w h => blk_row h (by omega) rfl)
    refine J.app 0 rfl rfl rfl rfl rfl rfl Tryz.underlying22 inf5 rfl rfl rfl rfl (news := xs.map vu8) (by simp) (fun w h hn => srcB (h.ba hx) hn) (all_u8 xs) (by omega) (fun v7 => ?_)
    refine J.asg rfl rfl rfl rfl rfl ?_
    refine J.nil ?_
    refine C.ret ?_
    exact fin1 rfl (RV.tmp rfl) (fun w' h => h.ret 0 rfl (by simp))
end Go.Proofs.YtiminmnmeknioaaGreatDoor

/- slices.Clone of slices of octets. -/
set_option linter.unusedVariables false
namespace Go.Proofs.YtiminmnmeknioaaGreatDoor
open Go Go.RowKit

theorem CloneS_calls (w : World) (A : Option Addr) (n c : Nat) (vs : List Value) (hl : vs.length = n) (h1 : n ≤ 1000000000000) (hone : vs.all (·.oneCell') = true) (hnn : A = none → n = 0) (hx : 0 < n → ∃ b o, A = some ⟨b, o, none⟩ ∧ Old w b ∧ ∀ j u, vs[j]? = some u → w.cell? ⟨b, o + j, none⟩ = some u) : Calls Tryz.prog 107 #[.slice A n c] w (Ret w (fun u r => r = rowR 22 1 u n vs)) := by
  refine calls_of_C Tryz.func107 rfl Tryz.ntmps107 (Nat.le_of_ble_eq_true rfl) ?_
  refine C.less (L' := [(0, _)]) ?_ (Sub.cons rfl (Sub.nil _)) (fun w h => h)
  refine C.seq ?_
  refine C.region ?_
  refine J.asg rfl rfl rfl rfl rfl ?_
  refine J.nil ?_
  refine C.seq ?_
  refine C.seq ?_
  refine C.region ?_
  refine J.move rfl rfl rfl rfl rfl ?_
  refine J.binAny rfl rfl rfl rfl rfl rfl (fun w => slice_eql_nil Tryz.underlying44 _ _ _) ?_
  refine J.nil ?_
  refine C.cond rfl (fun h => ?_) (fun h => ?_)
  · have hA : A = none := by simpa using h
    obtain rfl := hnn hA
    obtain rfl : vs = [] := List.eq_nil_of_length_eq_zero hl
    refine C.seq ?_
    refine C.region ?_
    refine J.asg rfl rfl rfl rfl rfl ?_
    refine J.nil ?_
    refine C.ret ?_
    exact fin1 rfl (RV.tmp rfl) (fun w' h => (h.nilRow 22 1).ret 0 rfl rfl)
  · refine C.skip ?_
    refine C.seq ?_
    refine C.region ?_
    refine J.blds (vs := []) (cells := []) rfl rfl rfl rfl rfl Tryz.zeroValue22 Tryz.runUnderlying44 Tryz.sizeOf22 rfl rfl rfl rfl (fun b5 => ?_)
    refine J.move rfl rfl rfl rfl rfl ?_
    refine J.less (M' := [rowR 22 1 _ 0 []]) ?_ (Sub.refl _) (fun w h => blk_row h (by omega) rfl)
    have hsrc : ∀ (M : List Res) w', St No w M w' → 0 < n → ∃ a, A = some a ∧ ∀ j u, vs[j]? = some u → w'.cell? (a.add j) = some u := fun M w' hst hn => by
      obtain ⟨b, o, rfl, hb, hc⟩ := hx hn
      exact ⟨_, rfl, fun j u hu => by rw [Addr.add_mid]; exact cellOld hst (hc j u hu)⟩
    refine J.app 0 rfl rfl rfl rfl rfl rfl Tryz.underlying44 inf22 rfl rfl rfl rfl (news := vs) (by omega) (fun w' h hn => hsrc _ w' h hn) hone (by omega) (fun v7 => ?_)
    refine J.asg rfl rfl rfl rfl rfl ?_
    refine J.nil ?_
    refine C.ret ?_
    exact fin1 rfl (RV.tmp rfl) (fun w' h => h.ret 0 rfl (by simp))
end Go.Proofs.YtiminmnmeknioaaGreatDoor

/- slices.Clone of writes. -/
set_option linter.unusedVariables false
namespace Go.Proofs.YtiminmnmeknioaaGreatDoor
open Go Go.RowKit

theorem CloneW_calls (w : World) (A : Option Addr) (n c : Nat) (vs : List Value) (hl : vs.length = n * 2) (h1 : n ≤ 1000000000000) (hone : vs.all (·.oneCell') = true) (hnn : A = none → n = 0) (hx : 0 < n → ∃ b o, A = some ⟨b, o, none⟩ ∧ Old w b ∧ ∀ j u, vs[j]? = some u → w.cell? ⟨b, o + j, none⟩ = some u) : Calls Tryz.prog 108 #[.slice A n c] w (Ret w (fun u r => r = rowR 90 2 u n vs)) := by
  refine calls_of_C Tryz.func108 rfl Tryz.ntmps108 (Nat.le_of_ble_eq_true rfl) ?_
  refine C.less (L' := [(0, _)]) ?_ (Sub.cons rfl (Sub.nil _)) (fun w h => h)
  refine C.seq ?_
  refine C.region ?_
  refine J.asg rfl rfl rfl rfl rfl ?_
  refine J.nil ?_
  refine C.seq ?_
  refine C.seq ?_
  refine C.region ?_
  refine J.move rfl rfl rfl rfl rfl ?_
  refine J.binAny rfl rfl rfl rfl rfl rfl (fun w => slice_eql_nil Tryz.underlying48 _ _ _) ?_
  refine J.nil ?_
  refine C.cond rfl (fun h => ?_) (fun h => ?_)
  · have hA : A = none := by simpa using h
    obtain rfl := hnn hA
    obtain rfl : vs = [] := List.eq_nil_of_length_eq_zero (by simpa using hl)
    refine C.seq ?_
    refine C.region ?_
    refine J.asg rfl rfl rfl rfl rfl ?_
    refine J.nil ?_
    refine C.ret ?_
    exact fin1 rfl (RV.tmp rfl) (fun w' h => (h.nilRow 90 2).ret 0 rfl rfl)
  · refine C.skip ?_
    refine C.seq ?_
    refine C.region ?_
    refine J.blds (vs := []) (cells := []) rfl rfl rfl rfl rfl Tryz.zeroValue90 Tryz.runUnderlying48 Tryz.sizeOf90 rfl rfl rfl rfl (fun b5 => ?_)
    refine J.move rfl rfl rfl rfl rfl ?_
    refine J.less (M' := [rowR 90 2 _ 0 []]) ?_ (Sub.refl _) (fun w h => blk_row h (by omega) rfl)
    have hsrc : ∀ (M : List Res) w', St No w M w' → 0 < n → ∃ a, A = some a ∧ ∀ j u, vs[j]? = some u → w'.cell? (a.add j) = some u := fun M w' hst hn => by
      obtain ⟨b, o, rfl, hb, hc⟩ := hx hn
      exact ⟨_, rfl, fun j u hu => by rw [Addr.add_mid]; exact cellOld hst (hc j u hu)⟩
    refine J.app 0 rfl rfl rfl rfl rfl rfl Tryz.underlying48 inf90 rfl rfl rfl rfl (news := vs) (by omega) (fun w' h hn => hsrc _ w' h hn) hone (by omega) (fun v7 => ?_)
    refine J.asg rfl rfl rfl rfl rfl ?_
    refine J.nil ?_
    refine C.ret ?_
    exact fin1 rfl (RV.tmp rfl) (fun w' h => h.ret 0 rfl (by simp))
end Go.Proofs.YtiminmnmeknioaaGreatDoor

/- State.clone. -/
set_option linter.unusedVariables false
namespace Go.Proofs.YtiminmnmeknioaaGreatDoor
open Go Go.RowKit

/-- The cells of writes. -/
def wcells (xs : List Wr) (us : List Value) : List Value := (List.zipWith (fun x u => [vi x.1, u]) xs us).flatten
theorem wcells_len {xs : List Wr} {us : List Value} (h : us.length = xs.length) : (wcells xs us).length = xs.length * 2 := by
  unfold wcells
  induction xs generalizing us with
  | nil => simp
  | cons x xs ih =>
    cases us with
    | nil => simp at h
    | cons u us =>
      have := ih (us := us) (by simpa using h)
      simp only [List.zipWith_cons_cons, List.flatten_cons, List.length_append, List.length_cons, List.length_nil, this]; omega
theorem wcells_get {xs : List Wr} {us : List Value} (h : us.length = xs.length) (j : Nat) (hj : j < xs.length) : (wcells xs us)[j * 2]? = some (vi xs[j].1) ∧ (wcells xs us)[j * 2 + 1]? = some (us[j]'(by omega)) := by
  induction xs generalizing us j with
  | nil => simp at hj
  | cons x xs ih =>
    cases us with
    | nil => simp at h
    | cons u us =>
      cases j with
      | zero => simp [wcells]
      | succ j =>
        have := ih (us := us) (by simpa using h) j (by simpa using hj)
        have e : wcells (x :: xs) (u :: us) = vi x.1 :: u :: wcells xs us := rfl
        rw [e, show (j + 1) * 2 = j * 2 + 1 + 1 by omega, show j * 2 + 1 + 1 + 1 = (j * 2 + 1) + 1 + 1 by omega]
        simpa using this
end Go.Proofs.YtiminmnmeknioaaGreatDoor

/- State.clone: what it copies. -/
set_option linter.unusedVariables false
namespace Go.Proofs.YtiminmnmeknioaaGreatDoor
open Go Go.RowKit

theorem RWS.vals {fp : Nat → Prop} {w : World} {v : Value} {xs : List Wr} (h : RWS fp w v xs) : ∃ (A : Option Addr) (c : Nat) (us : List Value), v = .slice A xs.length c ∧ xs.length ≤ c ∧ c ≤ 9223372036854775807 ∧ us.length = xs.length ∧ (∀ (j : Nat) u x, us[j]? = some u → xs[j]? = some x → RB fp w u x.2) ∧ (0 < xs.length → ∃ b o, A = some ⟨b, o, none⟩ ∧ fp b ∧ ∀ j u, (wcells xs us)[j]? = some u → w.cell? ⟨b, o + j, none⟩ = some u) := by
  obtain ⟨A, c, rfl, h1, h2, h3⟩ := h.form
  rcases Nat.eq_zero_or_pos xs.length with h0 | h0
  · exact ⟨A, c, [], rfl, h1, h2, by simp [h0], fun j u x hu => by simp at hu, fun h => by omega⟩
  · obtain ⟨b, o, rfl, hb, hc⟩ := h3 h0
    have hus : ((List.range xs.length).map (fun j => (w.cell? ⟨b, o + j * 2 + 1, none⟩).getD .nilIface)).length = xs.length := by simp
    refine ⟨_, c, (List.range xs.length).map (fun j => (w.cell? ⟨b, o + j * 2 + 1, none⟩).getD .nilIface), rfl, h1, h2, hus, fun j u x hu hx => ?_, fun _ => ⟨b, o, rfl, hb, fun j u hu => ?_⟩⟩
    · obtain ⟨u', _, hu', hr⟩ := hc j x hx
      have hj : j < xs.length := (List.getElem?_eq_some_iff.1 hx).1
      rw [List.getElem?_map, List.getElem?_range hj] at hu
      simp only [Option.map_some, hu', Option.getD_some, Option.some.injEq] at hu
      subst hu
      exact hr
    · have hlen := wcells_len hus
      have hj2 : j < (wcells xs ((List.range xs.length).map (fun j => (w.cell? ⟨b, o + j * 2 + 1, none⟩).getD .nilIface))).length := (List.getElem?_eq_some_iff.1 hu).1
      have hj : j / 2 < xs.length := by omega
      obtain ⟨u', hu0, hu1, hr⟩ := hc (j / 2) xs[j / 2] (by simp)
      have hg := wcells_get hus (j / 2) hj
      rcases Nat.mod_two_eq_zero_or_one j with hm | hm
      · rw [show j = j / 2 * 2 by omega, hg.1] at hu
        injection hu with hu
        subst hu
        rw [show o + j = o + j / 2 * 2 by omega]
        exact hu0
      · rw [show j = j / 2 * 2 + 1 by omega, hg.2] at hu
        injection hu with hu
        rw [List.getElem_map, List.getElem_range] at hu
        rw [show o + j = o + j / 2 * 2 + 1 by omega]
        rw [hu1] at hu ⊢
        simpa using hu
end Go.Proofs.YtiminmnmeknioaaGreatDoor

/- State.clone: words. -/
set_option linter.unusedVariables false
namespace Go.Proofs.YtiminmnmeknioaaGreatDoor
open Go Go.RowKit

theorem dkOk {d : Dk} (h : dkBad d = false) : (1 ≤ d.secs.length ∧ d.secs.length ≤ 2048) ∧ d.cache.length ≤ 4096 ∧ (∀ x ∈ d.secs, x.length = 64) ∧ ∀ x ∈ d.cache, 0 ≤ x.1 ∧ x.1 < d.secs.length ∧ x.2.length = 64 := by
  unfold dkBad at h
  simp only [Bool.or_eq_false_iff, decide_eq_false_iff_not] at h
  obtain ⟨⟨⟨⟨h1, h2⟩, h3⟩, h4⟩, h5⟩ := h
  refine ⟨⟨by omega, by omega⟩, by omega, fun x hx => ?_, fun x hx => ?_⟩
  · have := List.any_eq_false.1 h4 x hx
    unfold oddS at this
    simpa using this
  · have := List.any_eq_false.1 h5 x hx
    unfold badW oddS at this
    simp at this
    omega
/-- A row with some of its items set. -/
theorem set_mid {α : Type} {us vs : List α} {i : Nat} {u : α} (hu : us.length = i) (hi : i < vs.length) : (us ++ vs.drop i).set i u = (us ++ [u]) ++ vs.drop (i + 1) := by
  subst hu
  rw [List.set_append_right _ _ (Nat.le_refl _), Nat.sub_self, List.drop_eq_getElem_cons hi, List.set_cons_zero, List.append_assoc]
  rfl
theorem get_mid {α : Type} {us vs : List α} {i : Nat} (hu : us.length = i) (hi : i < vs.length) : (us ++ vs.drop i)[i]? = some vs[i] := by
  subst hu
  rw [List.getElem?_append_right (Nat.le_refl _), Nat.sub_self, List.drop_eq_getElem_cons hi]
  rfl
theorem get_mid2 {α : Type} {us vs : List α} {i : Nat} {u : α} (hu : us.length = i) (h : vs[i]? = some u) : (us ++ vs.drop i)[i]? = some u := by
  obtain ⟨hi, rfl⟩ := List.getElem?_eq_some_iff.1 h
  exact get_mid hu hi
theorem wcells_set {xs : List Wr} {us : List Value} (h : us.length = xs.length) (j : Nat) (hj : j < xs.length) (u : Value) : (wcells xs us).set (j * 2 + 1) u = wcells xs (us.set j u) := by
  induction xs generalizing us j with
  | nil => simp at hj
  | cons x xs ih =>
    cases us with
    | nil => simp at h
    | cons u0 us =>
      cases j with
      | zero => rfl
      | succ j =>
        have := ih (us := us) (by simpa using h) j (by simpa using hj)
        have e : ∀ u us, wcells (x :: xs) (u :: us) = vi x.1 :: u :: wcells xs us := fun _ _ => rfl
        rw [e, show (j + 1) * 2 + 1 = (j * 2 + 1) + 1 + 1 by omega, List.set_cons_succ, List.set_cons_succ, this, List.set_cons_succ, e]
theorem wcells_one {xs : List Wr} {us : List Value} (h : ∀ u ∈ us, u.oneCell' = true) : (wcells xs us).all (·.oneCell') = true := by
  unfold wcells
  rw [List.all_flatten, List.all_eq_true]
  intro l hl
  obtain ⟨j, hj, rfl⟩ := List.mem_iff_getElem.1 hl
  rw [List.getElem_zipWith]
  rw [List.length_zipWith] at hj
  have := h (us[j]'(by omega)) (List.getElem_mem _)
  simp only [List.all_cons, this, List.all_nil]
  rfl
theorem setArr {cs : Array Value} {k n : Nat} {vs : List Value} {u : Value} (h : cs.toList.take n = vs) (hk : k < n) : (cs.setIfInBounds k u).toList.take n = vs.set k u := by
  rw [Array.toList_setIfInBounds, List.take_set, h]
theorem getArr {cs : Array Value} {k n : Nat} {vs : List Value} {u : Value} (h : cs.toList.take n = vs) (hv : vs[k]? = some u) : cs[k]? = some u := by
  rw [← h, List.getElem?_take] at hv
  split at hv
  · simpa using hv
  · cases hv
theorem wcells_get2 {xs : List Wr} {us : List Value} {j : Nat} {u : Value} (h : us.length = xs.length) (hj : j < xs.length) (hu : us[j]? = some u) : (wcells xs us)[j * 2 + 1]? = some u := by
  rw [(wcells_get h j hj).2]
  obtain ⟨_, e⟩ := List.getElem?_eq_some_iff.1 hu
  rw [e]
theorem wcells_get1 {xs : List Wr} {us : List Value} {j : Nat} {x : Wr} (h : us.length = xs.length) (hx : xs[j]? = some x) : (wcells xs us)[j * 2]? = some (vi x.1) := by
  obtain ⟨hj, e⟩ := List.getElem?_eq_some_iff.1 hx
  rw [(wcells_get h j hj).1, e]
/-- A disk in rows of one's own. -/
def PCl (d : Dk) : Value → List Res → Prop := fun v Rs => ∃ A1 c1 A2 c2 vs us fp, us.length = d.cache.length ∧ Rs = [rowR 22 1 (.slice A1 d.secs.length c1) d.secs.length vs, gR 5 vs d.secs, rowR 90 2 (.slice A2 d.cache.length c2) d.cache.length (wcells d.cache us), mR fp us (d.cache.map (·.2))] ∧ v = .agg #[.slice A1 d.secs.length c1, .slice A2 d.cache.length c2]
end Go.Proofs.YtiminmnmeknioaaGreatDoor

