/- The engine of these proofs: frames as lists of known slots, memory as a list of separate pieces, rules for each kind of operation. It speaks of every program. -/
import Derived.WalkKit
import Derived.RangeFuncNested
import Derived.RangeFuncLeaves
import Derived.KernelRfl
import Derived.Deep.MidRow
import Derived.Maps.AppendAt
import Derived.Laws.CopyOwn
import Derived.OrdersIn
import Derived.Deep.OwnRows
import Derived.Laws.BytesArg
import Derived.WalkSpells
import Derived.Lib.AppendZeros
import Derived.WideLaws
import Derived.Laws.Small
import Derived.Test.YtiminmnmeknioaaDoorRows
import Derived.Deep.Slices
import Derived.ProofKit
import Derived.OpenShut
import Derived.Carry
import Derived.Deep.Fields
import Derived.Deep.DeepHandedRow
import Derived.Lib.LaidTab
import Derived.LaidLaws
import Derived.LaidHandle
import Derived.Test.YtiminmnmeknioaaDoorProg
set_option linter.unusedVariables false
namespace Go.Proofs.YtiminmnmeknioaaDoor
open Go Go.RowKit

/-! ### Frames -/
abbrev Env := List (Nat × Value)

structure Has (N : Nat) (ds : List Deferred) (L : Env) (a : Act) : Prop where
  size : a.tmps.size = N
  defers : a.defers = ds
  get : ∀ k v, L.lookup k = some v → a.tmps.getD k undef = v

def evl (L : Env) : Operand → Option Value
  | .tmp t => L.lookup t
  | .const v => some v
  | .global g => some (.pointer (some ⟨g, 0, none⟩))
  | .func f => some (.func (.func f) #[] #[])

def putE (dst : Option Nat) (v : Value) (L : Env) : Env := match dst with | some d => (d, v) :: L | none => L
def dstOk (dst : Option Nat) (N : Nat) : Bool := match dst with | some d => decide (d < N) | none => true

section
variable {N : Nat} {ds : List Deferred} {L : Env} {a : Act}
theorem Has.eval (h : Has N ds L a) {x : Operand} {v : Value} (he : evl L x = some v) : a.eval x = v := by
  cases x with
  | tmp t => exact h.get t v he
  | const u => exact Option.some.inj he
  | global g => exact Option.some.inj he
  | func f => exact Option.some.inj he

theorem Has.put (h : Has N ds L a) {dst : Option Nat} (hd : dstOk dst N = true) (v : Value) : Has N ds (putE dst v L) (a.put dst v) := by
  cases dst with
  | none => exact h
  | some d =>
    have hd' : d < N := by simpa [dstOk] using hd
    refine ⟨by simpa [Act.put] using h.size, by simpa [Act.put] using h.defers, fun k u hk => ?_⟩
    by_cases e : k = d
    · subst e
      simp only [putE, List.lookup, beq_self_eq_true] at hk
      injection hk with hk
      subst hk
      simp [Act.put, Array.getD, h.size, hd']
    · have hk' : L.lookup k = some u := by
        simp only [putE, List.lookup, show (k == d) = false by simpa using e] at hk
        exact hk
      have := h.get k u hk'
      rw [← this]
      simp [Act.put, Array.getD_eq_getD_getElem?, Ne.symm e]

theorem Has.sub (h : Has N ds L a) {L' : Env} (hs : ∀ k v, L'.lookup k = some v → L.lookup k = some v) : Has N ds L' a := ⟨h.size, h.defers, fun k v hk => h.get k v (hs k v hk)⟩
end

/-- What L' says, L says. -/
def Sub (L' L : Env) : Prop := ∀ k v, L'.lookup k = some v → L.lookup k = some v
theorem Sub.nil (L : Env) : Sub [] L := fun k v h => by cases h
theorem Sub.cons {L' L : Env} {k : Nat} {v : Value} (h : L.lookup k = some v) (hs : Sub L' L) : Sub ((k, v) :: L') L := fun j u hj => by
  by_cases e : j = k
  · subst e
    simp only [List.lookup, beq_self_eq_true] at hj
    injection hj with hj
    rw [← hj]; exact h
  · simp only [List.lookup, show (j == k) = false by simpa using e] at hj
    exact hs j u hj
theorem Sub.refl (L : Env) : Sub L L := fun _ _ h => h

/-! ### Memory -/
structure Res where
  fp : Nat → Prop
  hold : World → Prop
  loc : ∀ w w' : World, (∀ b, fp b → w'.heap[b]? = w.heap[b]?) → hold w → hold w'

/-- One block with its content. -/
def obj (b : Nat) (o : Obj) : Res := ⟨(· = b), fun w => w.heap[b]? = some o, fun w w' h hw => (h b rfl).trans hw⟩
abbrev blk (b : Nat) (cs : Array Value) (t : TypeId) : Res := obj b (.cells cs t)

/-- Nothing that stood has changed but in the blocks of mu. -/
structure Frm (mu : Nat → Prop) (w w' : World) : Prop where
  os : w'.os = w.os
  tape : w'.tape = w.tape
  output : w'.output = w.output
  size : w.heap.size ≤ w'.heap.size
  block : ∀ k, k < w.heap.size → ¬ mu k → w'.heap[k]? = w.heap[k]?
/-- No block. -/
def No : Nat → Prop := fun _ => False
theorem Frm.refl (mu : Nat → Prop) (w : World) : Frm mu w w := ⟨rfl, rfl, rfl, Nat.le_refl _, fun _ _ _ => rfl⟩
theorem Frm.trans {mu : Nat → Prop} {a b c : World} (h : Frm mu a b) (k : Frm mu b c) : Frm mu a c :=
  ⟨k.os.trans h.os, k.tape.trans h.tape, k.output.trans h.output, Nat.le_trans h.size k.size, fun i hi hm => (k.block i (Nat.lt_of_lt_of_le hi h.size) hm).trans (h.block i hi hm)⟩
theorem Frm.of_below {mu : Nat → Prop} {w w' : World} (h : Below w.heap.size w w') : Frm mu w w' := ⟨h.os, h.tape, h.output, h.size, fun k hk _ => h.block k hk⟩
theorem Frm.below {w w' : World} (h : Frm No w w') : Below w.heap.size w w' := ⟨h.os, h.tape, h.output, h.size, fun k hk => h.block k hk (fun h => h)⟩
theorem Frm.mono {mu mu' : Nat → Prop} {w w' : World} (h : Frm mu w w') (hm : ∀ k, k < w.heap.size → mu k → mu' k) : Frm mu' w w' := ⟨h.os, h.tape, h.output, h.size, fun k hk hn => h.block k hk (fun x => hn (hm k hk x))⟩

structure St (mu : Nat → Prop) (w0 : World) (M : List Res) (w : World) : Prop where
  frm : Frm mu w0 w
  hold : ∀ r ∈ M, r.hold w
  bnd : ∀ r ∈ M, ∀ b, r.fp b → (w0.heap.size ≤ b ∨ mu b) ∧ b < w.heap.size
  sep : M.Pairwise (fun r s => ∀ b, r.fp b → s.fp b → False)

section
variable {mu : Nat → Prop} {w0 w w' : World} {M M' : List Res} {r r' s : Res}
theorem St.init (w : World) : St mu w [] w := ⟨Frm.refl _ _, by simp, by simp, List.Pairwise.nil⟩

/-- The world has grown; nothing that stood has changed. -/
theorem St.grow0 (h : St mu w0 M w) (hb : Below w.heap.size w w') : St mu w0 M w' := by
  refine ⟨h.frm.trans (Frm.of_below hb), fun r hr => r.loc w w' (fun b hf => hb.block b (h.bnd r hr b hf).2) (h.hold r hr), fun r hr b hf => ?_, h.sep⟩
  have := h.bnd r hr b hf
  exact ⟨this.1, Nat.lt_of_lt_of_le this.2 hb.size⟩

theorem St.grow (h : St mu w0 M w) (hb : Below w.heap.size w w') (hr : r.hold w') (hf : ∀ b, r.fp b → w.heap.size ≤ b ∧ b < w'.heap.size) : St mu w0 (r :: M) w' := by
  have h' := h.grow0 hb
  refine ⟨h'.frm, ?_, ?_, List.Pairwise.cons ?_ h'.sep⟩
  · intro s hs
    rcases List.mem_cons.1 hs with rfl | hs
    · exact hr
    · exact h'.hold s hs
  · intro s hs b hb'
    rcases List.mem_cons.1 hs with rfl | hs
    · have := hf b hb'
      exact ⟨.inl (Nat.le_trans h.frm.size this.1), this.2⟩
    · exact h'.bnd s hs b hb'
  · intro s hs b h1 h2
    have := (hf b h1).1
    have := (h.bnd s hs b h2).2
    omega

theorem below_alloc_ (w : World) (o : Obj) : Below w.heap.size w (w.alloc o) := (Below.refl _ w).alloc (Nat.le_refl _) o
theorem St.alloc (h : St mu w0 M w) (o : Obj) : St mu w0 (obj w.heap.size o :: M) (w.alloc o) :=
  h.grow (below_alloc_ w o) (World.alloc_heap_new w o) (by intro b hb; obtain rfl : b = w.heap.size := hb; rw [World.size_alloc]; omega)
theorem St.drew (h : St mu w0 M w) : St mu w0 M w.drew := h.grow0 (Below.refl _ w).drew

theorem St.get (h : St mu w0 M w) (k : Nat) (hk : M[k]? = some r) : r.hold w := h.hold r (List.mem_of_getElem? hk)
theorem St.bd (h : St mu w0 M w) (k : Nat) (hk : M[k]? = some r) {b : Nat} (hb : r.fp b) : (w0.heap.size ≤ b ∨ mu b) ∧ b < w.heap.size := h.bnd r (List.mem_of_getElem? hk) b hb

theorem St.sub (h : St mu w0 M w) (hs : M'.Sublist M) : St mu w0 M' w :=
  ⟨h.frm, fun r hr => h.hold r (hs.subset hr), fun r hr => h.bnd r (hs.subset hr), h.sep.sublist hs⟩
theorem St.perm (h : St mu w0 M w) (hs : M'.Perm M) : St mu w0 M' w :=
  ⟨h.frm, fun r hr => h.hold r (hs.subset hr), fun r hr => h.bnd r (hs.subset hr), h.sep.perm hs.symm (fun {a b} h c h1 h2 => h c h2 h1)⟩

/-- One piece is seen otherwise. -/
theorem St.at_ (h : St mu w0 (r :: M) w) (hr : r'.hold w) (hf : ∀ b, r'.fp b → r.fp b) : St mu w0 (r' :: M) w := by
  refine ⟨h.frm, ?_, ?_, ?_⟩
  · intro s hs
    rcases List.mem_cons.1 hs with rfl | hs
    · exact hr
    · exact h.hold s (List.mem_cons_of_mem _ hs)
  · intro s hs b hb
    rcases List.mem_cons.1 hs with rfl | hs
    · exact h.bnd r List.mem_cons_self b (hf b hb)
    · exact h.bnd s (List.mem_cons_of_mem _ hs) b hb
  · have hp := List.pairwise_cons.1 h.sep
    exact List.Pairwise.cons (fun s hs b h1 h2 => hp.1 s hs b (hf b h1) h2) hp.2

/-- Two pieces as one. -/
theorem St.merge (h : St mu w0 (r :: s :: M) w) (hr : r'.hold w) (hf : ∀ b, r'.fp b → r.fp b ∨ s.fp b) : St mu w0 (r' :: M) w := by
  have hp := List.pairwise_cons.1 h.sep
  have hp2 := List.pairwise_cons.1 hp.2
  refine ⟨h.frm, ?_, ?_, ?_⟩
  · intro t ht
    rcases List.mem_cons.1 ht with rfl | ht
    · exact hr
    · exact h.hold t (by simp [ht])
  · intro t ht b hb
    rcases List.mem_cons.1 ht with rfl | ht
    · rcases hf b hb with h1 | h1
      · exact h.bnd r (by simp) b h1
      · exact h.bnd s (by simp) b h1
    · exact h.bnd t (by simp [ht]) b hb
  · refine List.Pairwise.cons (fun t ht b h1 h2 => ?_) hp2.2
    rcases hf b h1 with h1 | h1
    · exact hp.1 t (by simp [ht]) b h1 h2
    · exact hp2.1 t ht b h1 h2

/-- What changed lies in one piece, or is new. -/
theorem St.change (h : St mu w0 (r :: M) w) (hos : w'.os = w.os) (htape : w'.tape = w.tape) (hout : w'.output = w.output) (hsize : w.heap.size ≤ w'.heap.size)
    (hsame : ∀ b, b < w.heap.size → ¬ r.fp b → w'.heap[b]? = w.heap[b]?) (hr : r'.hold w') (hf : ∀ b, r'.fp b → r.fp b ∨ (w.heap.size ≤ b ∧ b < w'.heap.size)) : St mu w0 (r' :: M) w' := by
  have hp := List.pairwise_cons.1 h.sep
  refine ⟨⟨hos.trans h.frm.os, htape.trans h.frm.tape, hout.trans h.frm.output, Nat.le_trans h.frm.size hsize, fun k hk hm => ?_⟩, ?_, ?_, ?_⟩
  · rw [hsame k (Nat.lt_of_lt_of_le hk h.frm.size) fun hk' => ?_]
    · exact h.frm.block k hk hm
    · rcases (h.bnd r List.mem_cons_self k hk').1 with h1 | h1
      · omega
      · exact hm h1
  · intro s hs
    rcases List.mem_cons.1 hs with rfl | hs
    · exact hr
    · exact s.loc w w' (fun b hb => hsame b (h.bnd s (List.mem_cons_of_mem _ hs) b hb).2 (fun hr' => hp.1 s hs b hr' hb)) (h.hold s (List.mem_cons_of_mem _ hs))
  · intro s hs b hb
    rcases List.mem_cons.1 hs with rfl | hs
    · rcases hf b hb with h1 | h1
      · have := h.bnd r List.mem_cons_self b h1
        exact ⟨this.1, Nat.lt_of_lt_of_le this.2 hsize⟩
      · exact ⟨.inl (Nat.le_trans h.frm.size h1.1), h1.2⟩
    · have := h.bnd s (List.mem_cons_of_mem _ hs) b hb
      exact ⟨this.1, Nat.lt_of_lt_of_le this.2 hsize⟩
  · refine List.Pairwise.cons (fun s hs b h1 h2 => ?_) hp.2
    rcases hf b h1 with h1 | h1
    · exact hp.1 s hs b h1 h2
    · have := (h.bnd s (List.mem_cons_of_mem _ hs) b h2).2; omega

theorem St.below (h : St No w0 M w) : Below w0.heap.size w0 w := h.frm.below
/-- The piece at place k comes to the front. -/
theorem St.front (h : St mu w0 M w) (k : Nat) (hk : M[k]? = some r) : St mu w0 (r :: M.eraseIdx k) w := by
  refine h.perm ?_
  obtain ⟨hlt, rfl⟩ := List.getElem?_eq_some_iff.1 hk
  clear h hk
  induction M generalizing k with
  | nil => simp at hlt
  | cons x M ih =>
    cases k with
    | zero => simp
    | succ k =>
      simp only [List.getElem_cons_succ, List.eraseIdx_cons_succ]
      exact (List.Perm.swap x _ _).trans ((ih k (by simpa using hlt)).cons x)
end

/-! ### Code -/
def FW (ro : Option Nat) : Fence := { Fence.wide with round := ro }
theorem FW_fn (ro : Option Nat) (f : FuncId) : (FW ro).fn f := trivial
theorem FW_depth (ro : Option Nat) : (FW ro).depth = none := rfl

structure Cfg where
  P : Program
  ro : Option Nat
  n : Nat
  N : Nat
  mu : Nat → Prop
  w0 : World

abbrev Kont := List Deferred → Env → List Res → Prop

/-- How a piece of code may be left, and what holds then. -/
def PQ (X : Cfg) (nK : Kont) (xs : List (Nat × Kont)) (rK : Kont) : Exit → Act → World → Prop
  | .normal, a, w => ∃ ds L M, Has X.N ds L a ∧ St X.mu X.w0 M w ∧ nK ds L M
  | .exit id, a, w => ∃ ds L M K, Has X.N ds L a ∧ St X.mu X.w0 M w ∧ xs.lookup id = some K ∧ K ds L M
  | .ret, a, w => ∃ ds L M, Has X.N ds L a ∧ St X.mu X.w0 M w ∧ rK ds L M
  | _, _, _ => False

def C (X : Cfg) (c : Code) (ds : List Deferred) (L : Env) (M : List Res) (nK : Kont) (xs : List (Nat × Kont)) (rK : Kont) : Prop :=
  ∀ a w, Has X.N ds L a → St X.mu X.w0 M w → c.wpIn (FW X.ro) X.n X.P (PQ X nK xs rK) a w

def J (X : Cfg) (ops : Array Oper) (l : List Oper) (ds : List Deferred) (L : Env) (M : List Res) (K : Kont) : Prop :=
  ∀ Q : Exit → Act → World → Prop, (∀ a w ds L M, Has X.N ds L a → St X.mu X.w0 M w → K ds L M → Q .normal a w) →
    ∀ a w, Has X.N ds L a → St X.mu X.w0 M w → wpListIn (FW X.ro) X.n X.P ops Q l a w

section
variable {X : Cfg} {ds : List Deferred} {L : Env} {M : List Res} {nK rK : Kont} {xs : List (Nat × Kont)} {c x y : Code}

theorem C.seq (h : C X x ds L M (fun ds L M => C X y ds L M nK xs rK) xs rK) : C X (.seq x y) ds L M nK xs rK := by
  intro a w ha hw
  refine wpIn_seq (Code.wpIn_mono ?_ (h a w ha hw))
  intro e a w q
  cases e with
  | normal =>
    obtain ⟨ds, L, M, h1, h2, h3⟩ := q
    exact h3 a w h1 h2
  | exit id => exact q
  | ret => exact q
  | goto l => exact q
  | panic ch => exact q
  | outgrown => exact q

theorem C.mono {nK' : Kont} (h : C X c ds L M nK' xs rK) (hn : ∀ ds L M, nK' ds L M → nK ds L M) : C X c ds L M nK xs rK := by
  intro a w ha hw
  refine Code.wpIn_mono ?_ (h a w ha hw)
  intro e a w q
  cases e with
  | normal =>
    obtain ⟨ds, L, M, h1, h2, h3⟩ := q
    exact ⟨ds, L, M, h1, h2, hn _ _ _ h3⟩
  | exit id => exact q
  | ret => exact q
  | goto l => exact q
  | panic ch => exact q
  | outgrown => exact q

/-- A state known by less. -/
theorem C.less {L' : Env} {M' : List Res} (h : C X c ds L' M' nK xs rK) (hs : Sub L' L) (hM : ∀ w, St X.mu X.w0 M w → St X.mu X.w0 M' w) : C X c ds L M nK xs rK :=
  fun a w ha hw => h a w (ha.sub hs) (hM w hw)

theorem C.block {id : Nat} (h : C X c ds L M nK ((id, nK) :: xs) rK) : C X (.block id c) ds L M nK xs rK := by
  intro a w ha hw
  refine wpIn_block (Code.wpIn_mono ?_ (h a w ha hw))
  intro e a w q
  cases e with
  | normal => exact q
  | exit id' =>
    obtain ⟨ds, L, M, K, h1, h2, h3, h4⟩ := q
    simp only [Exit.inBlock]
    by_cases e : id' = id
    · subst e
      simp only [List.lookup, beq_self_eq_true] at h3
      injection h3 with h3
      subst h3
      rw [if_pos rfl]
      exact ⟨ds, L, M, h1, h2, h4⟩
    · simp only [List.lookup, show (id' == id) = false by simpa using e] at h3
      rw [if_neg e]
      exact ⟨ds, L, M, K, h1, h2, h3, h4⟩
  | ret => exact q
  | goto l => exact q
  | panic ch => exact q
  | outgrown => exact q

theorem C.exit {id : Nat} {K : Kont} (hx : xs.lookup id = some K) (h : K ds L M) : C X (.exit id) ds L M nK xs rK :=
  fun a w ha hw => wpIn_exit ⟨ds, L, M, K, ha, hw, hx, h⟩
theorem C.ret (h : rK ds L M) : C X .ret ds L M nK xs rK := fun a w ha hw => wpIn_ret ⟨ds, L, M, ha, hw, h⟩
theorem C.skip (h : nK ds L M) : C X .skip ds L M nK xs rK := fun a w ha hw => wpIn_skip ⟨ds, L, M, ha, hw, h⟩
theorem C.label {l : Nat} (h : nK ds L M) : C X (.label l) ds L M nK xs rK := fun a w ha hw => wpIn_label ⟨ds, L, M, ha, hw, h⟩
theorem C.cond {o : Operand} {t : Bool} (hc : evl L o = some (.bool t)) (h1 : t = true → C X x ds L M nK xs rK) (h2 : t = false → C X y ds L M nK xs rK) : C X (.cond o x y) ds L M nK xs rK :=
  fun a w ha hw => wpIn_cond_split (ha.eval hc) (fun ht => h1 ht a w ha hw) (fun ht => h2 ht a w ha hw)
theorem C.cond_t {o : Operand} (hc : evl L o = some (.bool true)) (h1 : C X x ds L M nK xs rK) : C X (.cond o x y) ds L M nK xs rK :=
  C.cond hc (fun _ => h1) (fun h => by cases h)
theorem C.cond_f {o : Operand} (hc : evl L o = some (.bool false)) (h1 : C X y ds L M nK xs rK) : C X (.cond o x y) ds L M nK xs rK :=
  C.cond hc (fun h => by cases h) (fun _ => h1)

theorem least_ {p : Nat → Prop} (h : ∃ n, p n) : ∃ n, p n ∧ ∀ m, p m → n ≤ m := by
  obtain ⟨n, hn⟩ := h
  induction n using Nat.strongRecOn with
  | _ n ih =>
    by_cases hx : ∃ m, m < n ∧ p m
    · obtain ⟨m, hm, hp⟩ := hx
      exact ih m hm hp
    · refine ⟨n, hn, fun m hm => ?_⟩
      rcases Nat.lt_or_ge m n with h | h
      · exact absurd ⟨m, h, hm⟩ hx
      · exact h
/-- A loop: what holds at its head of a state s; a measure. -/
theorem C.loop {σ : Type} (I : σ → Prop) (E : σ → Env) (R : σ → List Res) (μ : σ → Nat) (s0 : σ) (h0 : I s0) (hL : Sub (E s0) L) (hM : ∀ w, St X.mu X.w0 M w → St X.mu X.w0 (R s0) w)
    (round : ∀ s, I s → C X c ds (E s) (R s) (fun ds' L' M' => ds' = ds ∧ ∃ s', I s' ∧ μ s' < μ s ∧ Sub (E s') L' ∧ ∀ w, St X.mu X.w0 M' w → St X.mu X.w0 (R s') w) xs rK) : C X (.loop c) ds L M nK xs rK := by
  intro a w ha hw
  have key : ∀ m s a w, μ s < m → I s → Has X.N ds (E s) a → St X.mu X.w0 (R s) w → (Code.loop c).wpIn (FW X.ro) X.n X.P (PQ X nK xs rK) a w := by
    intro m s a w hm hI ha hw
    classical
    refine wpIn_loop (fun a w => ∃ s, I s ∧ Has X.N ds (E s) a ∧ St X.mu X.w0 (R s) w) (fun a w => if h : ∃ n s, I s ∧ Has X.N ds (E s) a ∧ St X.mu X.w0 (R s) w ∧ μ s = n then Classical.choose (least_ h) else 0) ⟨s, hI, ha, hw⟩ ?_
    rintro a w ⟨s, hI, ha, hw⟩
    have hex : ∃ n s, I s ∧ Has X.N ds (E s) a ∧ St X.mu X.w0 (R s) w ∧ μ s = n := ⟨μ s, s, hI, ha, hw, rfl⟩
    obtain ⟨s1, hI1, ha1, hw1, he1⟩ := (Classical.choose_spec (least_ hex)).1
    refine Code.wpIn_mono ?_ (round s1 hI1 a w ha1 hw1)
    intro e a' w' q
    cases e with
    | normal =>
      obtain ⟨ds', L', M', h1, h2, h3, s', hI', hlt, hs, hM'⟩ := q
      subst h3
      refine ⟨⟨s', hI', h1.sub hs, hM' _ h2⟩, ?_⟩
      have hex' : ∃ n s, I s ∧ Has X.N ds' (E s) a' ∧ St X.mu X.w0 (R s) w' ∧ μ s = n := ⟨μ s', s', hI', h1.sub hs, hM' _ h2, rfl⟩
      simp only [dif_pos hex, dif_pos hex']
      have : Classical.choose (least_ hex') ≤ μ s' := (Classical.choose_spec (least_ hex')).2 _ ⟨s', hI', h1.sub hs, hM' _ h2, rfl⟩
      omega
    | exit id => exact q
    | ret => exact q
    | goto l => exact q
    | panic ch => exact q
    | outgrown => exact q
  exact key (μ s0 + 1) s0 a w (by omega) h0 (ha.sub hL) (hM w hw)

theorem C.region {id : Nat} {ops : Array Oper} (h : J X ops ops.toList ds L M nK) : C X (.region id ops false) ds L M nK xs rK :=
  fun a w ha hw => wpIn_region_list (h _ (fun a w ds L M h1 h2 h3 => ⟨ds, L, M, h1, h2, h3⟩) a w ha hw)

/-- What is owed where a function returns. -/
def Fin_ (P : Program) (fn : Func) (N : Nat) (mu : Nat → Prop) (w : World) (R : Ending → World → Prop) : Kont := fun ds L M => ds = [] ∧ ∀ a w', Has N [] L a → St mu w M w' → ∃ v, (results fn a.tmps).run P w' = .ok v w' ∧ R (.returned v) w'
/-- A function's contract from its body. -/
theorem calls_of_Cm {mu : Nat → Prop} {M0 : List Res} {P : Program} {f : FuncId} {fn : Func} {c : Code} {args : List Value} {w : World} {R : Ending → World → Prop} {N : Nat} (hf : P.funcs[f]? = some fn) (hb : fn.body = some c) (hN : fn.ntmps = N) (hn : args.length ≤ N)
    (hst : St mu w M0 w) (h : C ⟨P, none, 0, N, mu, w⟩ c [] ((List.range args.length).zip args) M0 (Fin_ P fn N mu w R) [] (Fin_ P fn N mu w R)) : Calls P f args.toArray w R := by
  subst hN
  rw [← callsIn_wide (n := 0)]
  refine callsIn_of_wp hf hb trivial ?_
  refine Code.wpIn_mono ?_ (h _ w ⟨by simp; omega, rfl, ?_⟩ hst)
  · intro e a w' q
    cases e with
    | normal =>
      obtain ⟨ds, L, M, h1, h2, rfl, h3⟩ := q
      exact ⟨h1.defers, h3 a w' h1 h2⟩
    | ret =>
      obtain ⟨ds, L, M, h1, h2, rfl, h3⟩ := q
      exact ⟨h1.defers, h3 a w' h1 h2⟩
    | exit id =>
      obtain ⟨ds, L, M, K, h1, h2, h3, _⟩ := q
      cases h3
    | goto l => exact q.elim
    | panic ch => exact q.elim
    | outgrown => exact q.elim
  · intro k v hk
    have key : ∀ (l : List Value) (s k : Nat) (v : Value), ((List.range' s l.length).zip l).lookup k = some v → s ≤ k ∧ l[k - s]? = some v := by
      intro l
      induction l with
      | nil => intro s k v h; cases h
      | cons x l ih =>
        intro s k v h
        simp only [List.length_cons, List.range'_succ, List.zip_cons_cons, List.lookup] at h
        by_cases e : k = s
        · subst e
          simp only [beq_self_eq_true] at h
          exact ⟨Nat.le_refl _, by simpa using h⟩
        · simp only [show (k == s) = false by simpa using e] at h
          obtain ⟨h1, h2⟩ := ih (s + 1) k v h
          refine ⟨by omega, ?_⟩
          rw [show k - s = (k - (s + 1)) + 1 by omega]
          simpa using h2
    rw [List.range_eq_range'] at hk
    obtain ⟨_, h2⟩ := key args 0 k v hk
    have hlt := (List.getElem?_eq_some_iff.1 h2).1
    simp only [Nat.sub_zero] at h2 hlt
    rw [Array.getD_eq_getD_getElem?, Array.getElem?_append_left (by simpa using hlt)]
    simp [h2]
theorem calls_of_C {P : Program} {f : FuncId} {fn : Func} {c : Code} {args : List Value} {w : World} {R : Ending → World → Prop} {N : Nat} (hf : P.funcs[f]? = some fn) (hb : fn.body = some c) (hN : fn.ntmps = N) (hn : args.length ≤ N)
    (h : C ⟨P, none, 0, N, No, w⟩ c [] ((List.range args.length).zip args) [] (Fin_ P fn N No w R) [] (Fin_ P fn N No w R)) : Calls P f args.toArray w R := calls_of_Cm hf hb hN hn (St.init w) h
end
end Go.Proofs.YtiminmnmeknioaaDoor
/- The engine's rules: one for each kind of operation. -/
set_option linter.unusedVariables false
set_option linter.unusedSimpArgs false
namespace Go.Proofs.YtiminmnmeknioaaDoor
open Go Go.RowKit

section
variable {P : Program} {ro : Option Nat} {n : Nat} {ops : Array Oper} {rest : List Oper} {o : Oper} {Q : Exit → Act → World → Prop} {a : Act} {w w' : World}
theorem wpl_val {v : Value} (hg : o.guard = none) (hnd : ∀ c, o.op ≠ .defer c) (hr : (execOp a.eval o).run P w = .ok (.value v) w') (h : wpListIn (FW ro) n P ops Q rest (a.put o.dst v) w') : wpListIn (FW ro) n P ops Q (o :: rest) a w := by
  refine wpListIn_plain hg fun K hK => ⟨fun f _ => trivial, ?_⟩
  rw [Oper.semAt_eq _ _ _ hnd, hr]
  exact hK _ _ h
theorem wpl_skip (hg : o.guard = none) (hnd : ∀ c, o.op ≠ .defer c) (hr : (execOp a.eval o).run P w = .ok .skip w') (h : wpListIn (FW ro) n P ops Q rest (a.put o.dst undef) w') : wpListIn (FW ro) n P ops Q (o :: rest) a w := by
  refine wpListIn_plain hg fun K hK => ⟨fun f _ => trivial, ?_⟩
  rw [Oper.semAt_eq _ _ _ hnd, hr]
  exact hK _ _ h
theorem wpl_enter {f : FuncId} {args : Array Value} (hg : o.guard = none) (hnd : ∀ c, o.op ≠ .defer c) (hr : (execOp a.eval o).run P w = .ok (.enter f args) w')
    (h : Calls P f args w' fun e w'' => ∃ v, e = .returned v ∧ wpListIn (FW ro) n P ops Q rest (a.put o.dst v) w'') : wpListIn (FW ro) n P ops Q (o :: rest) a w := by
  refine wpListIn_plain hg fun K hK => ⟨fun f _ => trivial, ?_⟩
  rw [Oper.semAt_eq _ _ _ hnd, hr]
  refine ⟨fun h => by simp [FW, Fence.wide] at h, ?_⟩
  have h2 : CallsIn Fence.wide (n - 1) P f args w' fun e w'' => ∃ v, e = .returned v ∧ wpListIn (FW ro) n P ops Q rest (a.put o.dst v) w'' := callsIn_wide.2 h
  refine CallsIn.mono (F := FW ro) h2 ?_
  rintro e w'' ⟨v, rfl, h3⟩
  exact hK _ _ h3
/-- An operation that is passed over. -/
theorem wpl_pass {j : Nat} {b : Bool} (hg : o.guard = some (j, b)) (hy : yielded ops a.tmps j ≠ some b) (h : wpListIn (FW ro) n P ops Q rest (a.put o.dst undef) w) : wpListIn (FW ro) n P ops Q (o :: rest) a w := by
  refine wpListIn_step fun K hK => ?_
  rw [if_neg (by simpa [Region.wanted, hg] using hy)]
  exact ⟨fun f _ => trivial, hK _ _ h⟩
theorem wpl_want {j : Nat} {b : Bool} (hg : o.guard = some (j, b)) (hy : yielded ops a.tmps j = some b) (h : wpListIn (FW ro) n P ops Q ({ o with guard := none } :: rest) a w) : wpListIn (FW ro) n P ops Q (o :: rest) a w := by
  refine wpListIn_step fun K hK => ?_
  rw [if_pos (by simp [Region.wanted, hg, hy])]
  simp only [wpListIn, Region.wanted, if_true] at h
  have := Oper.wpIn_mono (K := wpListIn (FW ro) n P ops Q rest) (K' := K) hK (o := { o with guard := none }) h
  exact this
end

section
variable {X : Cfg} {ops : Array Oper} {rest : List Oper} {o : Oper} {ds : List Deferred} {L : Env} {M : List Res} {K : Kont} {d : Nat}

theorem Has.putd {N : Nat} {a : Act} (ha : Has N ds L a) (hd : o.dst = some d) (hN : Nat.blt d N = true) (v : Value) : Has N ds ((d, v) :: L) (a.put o.dst v) := by
  have := ha.put (dst := o.dst) (by rw [hd]; simpa [dstOk, Nat.blt_eq] using hN) v
  rw [hd] at this ⊢
  exact this
theorem J.nil (h : K ds L M) : J X ops [] ds L M K := fun Q hQ a w ha hw => hQ a w ds L M ha hw h
theorem J.less {l : List Oper} {L' : Env} {M' : List Res} (h : J X ops l ds L' M' K) (hs : Sub L' L) (hM : ∀ w, St X.mu X.w0 M w → St X.mu X.w0 M' w) : J X ops l ds L M K :=
  fun Q hQ a w ha hw => h Q hQ a w (ha.sub hs) (hM w hw)

/-- A value that hangs on the slots alone, or on memory that is read. -/
theorem J.val {v : Value} (hg : o.guard = none) (hd : o.dst = some d) (hN : Nat.blt d X.N = true) (hnd : ∀ c, o.op ≠ .defer c) (hr : ∀ a w, Has X.N ds L a → St X.mu X.w0 M w → (execOp a.eval o).run X.P w = .ok (.value v) w)
    (h : J X ops rest ds ((d, v) :: L) M K) : J X ops (o :: rest) ds L M K :=
  fun Q hQ a w ha hw => wpl_val hg hnd (hr a w ha hw) (h Q hQ _ _ (ha.putd hd hN v) hw)

/-- A guarded operation: passed over. -/
theorem J.pass {j : Nat} {b : Bool} {g : Nat} {v : Value} (hg : o.guard = some (j, b)) (hd : o.dst = some d) (hN : Nat.blt d X.N = true) (hj : (ops[j]?).bind (·.dst) = some g) (hv : L.lookup g = some v) (hb : v ≠ .bool b)
    (h : J X ops rest ds ((d, undef) :: L) M K) : J X ops (o :: rest) ds L M K := by
  intro Q hQ a w ha hw
  refine wpl_pass hg ?_ (h Q hQ _ _ (ha.putd hd hN undef) hw)
  intro hy
  unfold yielded at hy
  rw [hj] at hy
  simp only [Option.bind_some] at hy
  have h1 := ha.get g v hv
  cases ht : a.tmps[g]? with
  | none => rw [ht] at hy; simp at hy
  | some u =>
    rw [Array.getD_eq_getD_getElem?, ht] at h1
    simp only [Option.getD_some] at h1
    subst h1
    rw [ht] at hy
    cases u <;> simp at hy
    exact hb (by rw [hy])
/-- A guarded operation: carried out. -/
theorem J.want {j : Nat} {b : Bool} {d : Nat} (hg : o.guard = some (j, b)) (hdN' : Nat.blt d X.N = true) (hj : (ops[j]?).bind (·.dst) = some d) (hv : L.lookup d = some (.bool b))
    (h : J X ops ({ o with guard := none } :: rest) ds L M K) : J X ops (o :: rest) ds L M K := by
  have hdN : d < X.N := by simpa [Nat.blt_eq] using hdN'
  intro Q hQ a w ha hw
  refine wpl_want hg ?_ (h Q hQ _ _ ha hw)
  unfold yielded
  rw [hj]
  simp only [Option.bind_some]
  have h1 := ha.get d _ hv
  have hlt : d < a.tmps.size := by rw [ha.size]; exact hdN
  rw [Array.getD_eq_getD_getElem?, Array.getElem?_eq_getElem hlt] at h1
  simp only [Option.getD_some] at h1
  rw [Array.getElem?_eq_getElem hlt, h1]

/-! #### Slots alone -/
theorem J.move {x : Operand} {v : Value} (ho : o.op = .move x) (hg : o.guard = none) (hd : o.dst = some d) (hN : Nat.blt d X.N = true) (hx : evl L x = some v) (h : J X ops rest ds ((d, v) :: L) M K) : J X ops (o :: rest) ds L M K :=
  J.val hg hd hN (by simp [ho]) (fun a w ha hw => by unfold execOp; rw [ho]; simp only [ha.eval hx]; rfl) h
theorem J.asg {x : Operand} {v : Value} (ho : o.op = .assign x) (hg : o.guard = none) (hd : o.dst = some d) (hN : Nat.blt d X.N = true) (hx : evl L x = some v) (h : J X ops rest ds ((d, v) :: L) M K) : J X ops (o :: rest) ds L M K :=
  J.val hg hd hN (by simp [ho]) (fun a w ha hw => by unfold execOp; rw [ho]; simp only [ha.eval hx]; rfl) h
theorem J.pick {c x y : Operand} {b : Bool} {v : Value} (ho : o.op = .pick c x y) (hg : o.guard = none) (hd : o.dst = some d) (hN : Nat.blt d X.N = true) (hc : evl L c = some (.bool b)) (hx : evl L (if b then x else y) = some v) (h : J X ops rest ds ((d, v) :: L) M K) : J X ops (o :: rest) ds L M K :=
  J.val hg hd hN (by simp [ho]) (fun a w ha hw => by
    have h1 := ha.eval hx
    unfold execOp; rw [ho]; simp only [ha.eval hc]
    cases b
    · simp only [Bool.false_eq_true, if_false] at h1
      simp only [h1]; rfl
    · simp only [if_true] at h1
      simp only [h1]; rfl) h
theorem J.ext {x : Operand} {vs : Array Value} {i : Nat} {v : Value} (ho : o.op = .extract x i) (hg : o.guard = none) (hd : o.dst = some d) (hN : Nat.blt d X.N = true) (hx : evl L x = some (.tuple vs)) (hv : vs.toList[i]? = some v) (h : J X ops rest ds ((d, v) :: L) M K) : J X ops (o :: rest) ds L M K :=
  J.val hg hd hN (by simp [ho]) (fun a w ha hw => by
    have hv' : vs[i]? = some v := by simpa using hv
    unfold execOp; rw [ho]; simp only [ha.eval hx, Instr.extract, hv']; rfl) h
/-- Any operator on two whole numbers of one kind. -/
theorem J.bin {p : BinOp} {t t' : TypeId} {x y : Operand} {k k' : IntKind} {i j : Int} {v : Value} (ho : o.op = .binOp p t x y t') (hg : o.guard = none) (hd : o.dst = some d) (hN : Nat.blt d X.N = true) (hx : evl L x = some (.int k i)) (hy : evl L y = some (.int k' j))
    (hv : ∀ w, (binOp p t (.int k i) (.int k' j)).run X.P w = .ok v w) (h : J X ops rest ds ((d, v) :: L) M K) : J X ops (o :: rest) ds L M K :=
  J.val hg hd hN (by simp [ho]) (fun a w ha hw => by
    unfold execOp; rw [ho]; simp only [ha.eval hx, ha.eval hy]
    have he : ∀ w, (eqGuard p t x y (.int k i) (.int k' j)).run X.P w = .ok () w := by
      intro w; unfold eqGuard; cases p <;> rfl
    simp only [Sem.run_bind, he, Result.andThen, hv, Sem.run_pure]) h
theorem J.binAny {p : BinOp} {t t' : TypeId} {x y : Operand} {u1 u2 : Value} {v : Value} (ho : o.op = .binOp p t x y t') (hg : o.guard = none) (hd : o.dst = some d) (hN : Nat.blt d X.N = true) (hx : evl L x = some u1) (hy : evl L y = some u2)
    (hv : ∀ w, (do eqGuard p t x y u1 u2; binOp p t u1 u2).run X.P w = .ok v w) (h : J X ops rest ds ((d, v) :: L) M K) : J X ops (o :: rest) ds L M K :=
  J.val hg hd hN (by simp [ho]) (fun a w ha hw => by
    unfold execOp; rw [ho]; simp only [ha.eval hx, ha.eval hy]
    simp only [Sem.run_bind (f := fun v => pure (Next.value v)), hv, Result.andThen, Sem.run_pure]) h
theorem J.not {t : TypeId} {x : Operand} {b : Bool} (ho : o.op = .unOp .not t x) (hg : o.guard = none) (hd : o.dst = some d) (hN : Nat.blt d X.N = true) (hx : evl L x = some (.bool b)) (h : J X ops rest ds ((d, (.bool (!b))) :: L) M K) : J X ops (o :: rest) ds L M K :=
  J.val hg hd hN (by simp [ho]) (fun a w ha hw => by unfold execOp; rw [ho]; simp only [ha.eval hx]; rfl) h
theorem J.un {p : UnOp} {t : TypeId} {x : Operand} {k : IntKind} {i : Int} {v : Value} (ho : o.op = .unOp p t x) (hg : o.guard = none) (hd : o.dst = some d) (hN : Nat.blt d X.N = true) (hx : evl L x = some (.int k i)) (hv : ∀ w, (Op.unary p (.int k i)).run X.P w = .ok v w)
    (h : J X ops rest ds ((d, v) :: L) M K) : J X ops (o :: rest) ds L M K :=
  J.val hg hd hN (by simp [ho]) (fun a w ha hw => by unfold execOp; rw [ho]; simp only [ha.eval hx]; simp only [Sem.run_bind, hv, Result.andThen, Sem.run_pure]) h
theorem J.conv {s td : TypeId} {x : Operand} {k k' : IntKind} {i j : Int} {ud : TypeDesc} (ho : o.op = .convert s td x) (hg : o.guard = none) (hd : o.dst = some d) (hN : Nat.blt d X.N = true) (hx : evl L x = some (.int k i)) (hs : ∀ w, (underlying s).run X.P w = .ok ud w) (hdd : ∀ w, (underlying td).run X.P w = .ok (.int k') w)
    (hj : k'.wrap i = j) (h : J X ops rest ds ((d, (.int k' j)) :: L) M K) : J X ops (o :: rest) ds L M K :=
  J.val hg hd hN (by simp [ho]) (fun a w ha hw => by
    unfold execOp; rw [ho]; simp only [ha.eval hx]; unfold convert
    simp only [Sem.run_bind, hs, hdd, Result.andThen]
    subst hj
    cases ud <;> simp only [Conv.intToInt, Sem.run_pure]) h
theorem J.convG {s td : TypeId} {x : Operand} {u v : Value} (ho : o.op = .convert s td x) (hg : o.guard = none) (hd : o.dst = some d) (hN : Nat.blt d X.N = true) (hx : evl L x = some u) (hr : ∀ w, St X.mu X.w0 M w → (convert s td u).run X.P w = .ok v w)
    (h : J X ops rest ds ((d, v) :: L) M K) : J X ops (o :: rest) ds L M K :=
  J.val hg hd hN (by simp [ho]) (fun a w ha hw => by unfold execOp; rw [ho]; simp only [ha.eval hx]; simp only [Sem.run_bind, hr w hw, Result.andThen, Sem.run_pure]) h
theorem J.nilck {x : Operand} {p : Addr} (ho : o.op = .nilCheck x) (hg : o.guard = none) (hd : o.dst = some d) (hN : Nat.blt d X.N = true) (hx : evl L x = some (.pointer (some p))) (h : J X ops rest ds ((d, (.pointer (some p))) :: L) M K) : J X ops (o :: rest) ds L M K :=
  J.val hg hd hN (by simp [ho]) (fun a w ha hw => by unfold execOp; rw [ho]; simp only [ha.eval hx]; rfl) h
theorem J.mkif {t : TypeId} {x : Operand} {v : Value} {td : TypeDesc} (ho : o.op = .makeInterface t x) (hg : o.guard = none) (hd : o.dst = some d) (hN : Nat.blt d X.N = true) (hx : evl L x = some v) (hu : ∀ w, (underlying t).run X.P w = .ok td w) (hi : ∀ ms, td ≠ .interface ms)
    (h : J X ops rest ds ((d, (.iface t v)) :: L) M K) : J X ops (o :: rest) ds L M K :=
  J.val hg hd hN (by simp [ho]) (fun a w ha hw => by
    unfold execOp; rw [ho]; simp only [ha.eval hx]; unfold Instr.makeInterface
    simp only [Sem.run_bind, hu, Result.andThen]
    cases td <;> first | rfl | exact absurd rfl (hi _)) h
theorem J.mkfn {fn : Fn} {first captured : Array Operand} {vs1 vs2 : Array Value} (ho : o.op = .makeFunc fn first captured) (hg : o.guard = none) (hd : o.dst = some d) (hN : Nat.blt d X.N = true) (h1 : first.mapM (evl L) = some vs1) (h2 : captured.mapM (evl L) = some vs2)
    (h : J X ops rest ds ((d, (.func fn vs1 vs2)) :: L) M K) : J X ops (o :: rest) ds L M K := by
  have key : ∀ (a : Act) (xs : Array Operand) (vs : Array Value), Has X.N ds L a → xs.mapM (evl L) = some vs → xs.map a.eval = vs := by
    intro a xs vs ha hm
    have : ∀ (l : List Operand) (us : List Value), l.mapM (evl L) = some us → l.map a.eval = us := by
      intro l
      induction l with
      | nil => intro us h; simp at h; simp [h]
      | cons y l ih =>
        intro us h
        simp only [List.mapM_cons, Option.bind_eq_bind, Option.bind_eq_some_iff, Option.pure_def] at h
        obtain ⟨u, hu, us', hus, h3⟩ := h
        injection h3 with h3
        subst h3
        simp [ha.eval hu, ih us' hus]
    rw [← Array.toList_inj]
    rw [Array.mapM_eq_mapM_toList] at hm
    simp only [Option.map_eq_map, Option.map_eq_some_iff] at hm
    obtain ⟨us, hus, rfl⟩ := hm
    simpa using this _ _ hus
  exact J.val hg hd hN (by simp [ho]) (fun a w ha hw => by unfold execOp; rw [ho]; simp only [key a _ _ ha h1, key a _ _ ha h2, Instr.makeFunc, Sem.run_bind, Sem.run_pure, Result.andThen]) h

/-! #### Places -/
theorem J.fld {s : TypeId} {x : Operand} {i b off k sz : Nat} {fs : Array Field} {fd : Field} (ho : o.op = .fieldAddr s x i) (hg : o.guard = none) (hd : o.dst = some d) (hN : Nat.blt d X.N = true) (hx : evl L x = some (.pointer (some ⟨b, off, none⟩))) (hu : ∀ w, (underlying s).run X.P w = .ok (.struct fs) w) (hf : fs[i]? = some fd)
    (hk : fd.offset = k) (hz : ∀ w, (sizeOf fd.type).run X.P w = .ok (sz + 1) w) (h : J X ops rest ds ((d, (.pointer (some ⟨b, off + k, none⟩))) :: L) M K) : J X ops (o :: rest) ds L M K :=
  J.val hg hd hN (by simp [ho]) (fun a w ha hw => by
    unfold execOp; rw [ho]; simp only [ha.eval hx]; unfold Instr.fieldAt fieldPlace Instr.sureAddr
    subst hk
    simp only [Sem.run_bind, hu, Result.andThen, hf, hz, Sem.run_pure, Nat.add_one_ne_zero, if_false, Addr.add_mid]) h
theorem J.fldv {s : TypeId} {x : Operand} {i : Nat} {cs : Array Value} {v : Value} {fs : Array Field} {fd : Field} (ho : o.op = .field s x i) (hg : o.guard = none) (hd : o.dst = some d) (hN : Nat.blt d X.N = true) (hx : evl L x = some (.agg cs)) (hu : ∀ w, (underlying s).run X.P w = .ok (.struct fs) w) (hf : fs[i]? = some fd)
    (ha : ∀ w, (isAgg fd.type).run X.P w = .ok false w) (hv : cs.toList[fd.offset]? = some v) (h : J X ops rest ds ((d, v) :: L) M K) : J X ops (o :: rest) ds L M K :=
  J.val hg hd hN (by simp [ho]) (fun a w hA hw => by
    have hv' : cs[fd.offset]? = some v := by simpa using hv
    unfold execOp; rw [ho]; simp only [hA.eval hx]; unfold Instr.field part asAgg
    simp only [Sem.run_bind, hu, Result.andThen, hf, ha, Sem.run_pure, Bool.false_eq_true, if_false, hv']) h
theorem J.fldva {s : TypeId} {x : Operand} {i sz : Nat} {cs cs' : Array Value} {fs : Array Field} {fd : Field} (ho : o.op = .field s x i) (hg : o.guard = none) (hd : o.dst = some d) (hN : Nat.blt d X.N = true) (hx : evl L x = some (.agg cs)) (hu : ∀ w, (underlying s).run X.P w = .ok (.struct fs) w) (hf : fs[i]? = some fd)
    (ha : ∀ w, (isAgg fd.type).run X.P w = .ok true w) (hz : ∀ w, (sizeOf fd.type).run X.P w = .ok sz w) (hv : cs.extract fd.offset (fd.offset + sz) = cs') (h : J X ops rest ds ((d, (.agg cs')) :: L) M K) : J X ops (o :: rest) ds L M K :=
  J.val hg hd hN (by simp [ho]) (fun a w hA hw => by
    unfold execOp; rw [ho]; simp only [hA.eval hx]; unfold Instr.field part asAgg
    subst hv
    simp only [Sem.run_bind, hu, Result.andThen, hf, ha, hz, Sem.run_pure, if_true]) h
/-- &s[i], s a slice. -/
theorem J.idx {t e : TypeId} {x y : Operand} {b off n c sz : Nat} {k : IntKind} {i : Int} (ho : o.op = .indexAddr t x y) (hg : o.guard = none) (hd : o.dst = some d) (hN : Nat.blt d X.N = true) (hx : evl L x = some (.slice (some ⟨b, off, none⟩) n c)) (hy : evl L y = some (.int k i)) (hu : ∀ w, (underlying t).run X.P w = .ok (.slice e) w)
    (hz : ∀ w, (sizeOf e).run X.P w = .ok sz w) (h0 : 0 ≤ i ∧ i < n) (h : J X ops rest ds ((d, (.pointer (some ⟨b, off + i.toNat * sz, none⟩))) :: L) M K) : J X ops (o :: rest) ds L M K :=
  J.val hg hd hN (by simp [ho]) (fun a w ha hw => by
    unfold execOp; rw [ho]; simp only [ha.eval hx, ha.eval hy]; unfold Instr.indexAt
    simp only [asIntOf, Sem.run_bind, hu, Result.andThen, hz, Sem.run_pure, h0, and_self, if_true, Addr.add_mid]) h
theorem J.idxn {t e : TypeId} {x y : Operand} {b off n c sz : Nat} {k : IntKind} {i : Nat} (ho : o.op = .indexAddr t x y) (hg : o.guard = none) (hd : o.dst = some d) (hN : Nat.blt d X.N = true) (hx : evl L x = some (.slice (some ⟨b, off, none⟩) n c)) (hy : evl L y = some (.int k (i : Int))) (hu : ∀ w, (underlying t).run X.P w = .ok (.slice e) w)
    (hz : ∀ w, (sizeOf e).run X.P w = .ok sz w) (h0 : i < n) (h : J X ops rest ds ((d, (.pointer (some ⟨b, off + i * sz, none⟩))) :: L) M K) : J X ops (o :: rest) ds L M K :=
  J.val hg hd hN (by simp [ho]) (fun a w ha hw => by
    unfold execOp; rw [ho]; simp only [ha.eval hx, ha.eval hy]; unfold Instr.indexAt
    have h0' : 0 ≤ (i : Int) ∧ (i : Int) < n := ⟨by omega, by omega⟩
    simp only [asIntOf, Sem.run_bind, hu, Result.andThen, hz, Sem.run_pure, h0', and_self, if_true, Addr.add_mid, Int.toNat_natCast]) h
theorem J.idx1 {t e : TypeId} {x y : Operand} {b off n c : Nat} {k : IntKind} {i : Nat} (ho : o.op = .indexAddr t x y) (hg : o.guard = none) (hd : o.dst = some d) (hN : Nat.blt d X.N = true) (hx : evl L x = some (.slice (some ⟨b, off, none⟩) n c)) (hy : evl L y = some (.int k (i : Int))) (hu : ∀ w, (underlying t).run X.P w = .ok (.slice e) w)
    (hz : ∀ w, (sizeOf e).run X.P w = .ok 1 w) (h0 : i < n) (h : J X ops rest ds ((d, (.pointer (some ⟨b, off + i, none⟩))) :: L) M K) : J X ops (o :: rest) ds L M K :=
  J.val hg hd hN (by simp [ho]) (fun a w ha hw => by
    unfold execOp; rw [ho]; simp only [ha.eval hx, ha.eval hy]; unfold Instr.indexAt
    have h0' : 0 ≤ (i : Int) ∧ (i : Int) < n := ⟨by omega, by omega⟩
    simp only [asIntOf, Sem.run_bind, hu, Result.andThen, hz, Sem.run_pure, h0', and_self, if_true, Addr.add_mid, Int.toNat_natCast, Nat.mul_one]) h
/-- &a[i], a an array. -/
theorem J.idxa {t e : TypeId} {x y : Operand} {b off n sz : Nat} {k : IntKind} {i : Int} (ho : o.op = .indexAddr t x y) (hg : o.guard = none) (hd : o.dst = some d) (hN : Nat.blt d X.N = true) (hx : evl L x = some (.pointer (some ⟨b, off, none⟩))) (hy : evl L y = some (.int k i)) (hu : ∀ w, (underlying t).run X.P w = .ok (.array n e) w)
    (hz : ∀ w, (sizeOf e).run X.P w = .ok sz w) (h0 : 0 ≤ i ∧ i < n) (h : J X ops rest ds ((d, (.pointer (some ⟨b, off + i.toNat * sz, none⟩))) :: L) M K) : J X ops (o :: rest) ds L M K :=
  J.val hg hd hN (by simp [ho]) (fun a w ha hw => by
    unfold execOp; rw [ho]; simp only [ha.eval hx, ha.eval hy]; unfold Instr.indexAt
    simp only [asIntOf, Sem.run_bind, hu, Result.andThen, hz, Sem.run_pure, Instr.sureAddr, h0, and_self, if_true, Addr.add_mid]) h

/-! #### Loads, stores -/
theorem J.ld {t : TypeId} {x : Operand} {p : Addr} {v : Value} (ho : o.op = .load t x) (hg : o.guard = none) (hd : o.dst = some d) (hN : Nat.blt d X.N = true) (hx : evl L x = some (.pointer (some p))) (hA : ∀ w, (isAgg t).run X.P w = .ok false w) (hc : ∀ w, St X.mu X.w0 M w → w.cell? p = some v)
    (h : J X ops rest ds ((d, v) :: L) M K) : J X ops (o :: rest) ds L M K :=
  J.val hg hd hN (by simp [ho]) (fun a w ha hw => by
    unfold execOp; rw [ho]; simp only [ha.eval hx]; unfold Instr.loadAt loadVar Instr.sureAddr
    simp only [Sem.run_bind, hA, Result.andThen, Sem.run_pure, Bool.false_eq_true, if_false, load, Sem.run, hc w hw]) h
theorem J.ldn {t : TypeId} {x : Operand} {p : Addr} {cs : List Value} (ho : o.op = .load t x) (hg : o.guard = none) (hd : o.dst = some d) (hN : Nat.blt d X.N = true) (hx : evl L x = some (.pointer (some p))) (hA : ∀ w, (isAgg t).run X.P w = .ok true w) (hz : ∀ w, (sizeOf t).run X.P w = .ok cs.length w)
    (hc : ∀ w, St X.mu X.w0 M w → ∀ j u, cs[j]? = some u → w.cell? (p.add j) = some u) (h : J X ops rest ds ((d, (.agg cs.toArray)) :: L) M K) : J X ops (o :: rest) ds L M K :=
  J.val hg hd hN (by simp [ho]) (fun a w ha hw => by
    unfold execOp; rw [ho]; simp only [ha.eval hx]; unfold Instr.loadAt loadVar Instr.sureAddr
    have := run_loadCells_list (P := X.P) w p cs (hc w hw)
    simp only [Sem.run_bind, hA, hz, Result.andThen, Sem.run_pure, if_true, this]) h

theorem cellO {mu : Nat → Prop} {w0 w : World} {b off : Nat} {cs : Array Value} {t : TypeId} {v : Value} (h : St mu w0 M w) (k : Nat) (hk : M[k]? = some (blk b cs t)) (hv : cs[off]? = some v) : w.cell? ⟨b, off, none⟩ = some v := by
  have := h.get k hk
  simp only [obj] at this
  simp [World.cell?, this, hv]
theorem cellOld {w0 w : World} {p : Addr} {v : Value} (h : St No w0 M w) (hv : w0.cell? p = some v) : w.cell? p = some v := by
  rw [h.below.cell (World.block_lt_of_cell? w0 p hv)]; exact hv
theorem cellOldm {mu : Nat → Prop} {w0 w : World} {p : Addr} {v : Value} (h : St mu w0 M w) (hm : ¬ mu p.block) (hv : w0.cell? p = some v) : w.cell? p = some v := by
  rw [World.cell?_of_block (w := w0) (h.frm.block _ (World.block_lt_of_cell? w0 p hv) hm)]; exact hv
theorem cellL {mu : Nat → Prop} {w0 w : World} {b off : Nat} {cs : Array Value} {t : TypeId} {v : Value} (h : St mu w0 M w) (k : Nat) (hk : M[k]? = some (blk b cs t)) (hv : cs.toList[off]? = some v) : w.cell? ⟨b, off, none⟩ = some v := cellO h k hk (by simpa using hv)
/-- A cell of a block of one's own. -/
theorem J.ldo (k : Nat) {t t' : TypeId} {x : Operand} {b off : Nat} {cs : Array Value} {v : Value} (ho : o.op = .load t x) (hg : o.guard = none) (hd : o.dst = some d) (hN : Nat.blt d X.N = true) (hx : evl L x = some (.pointer (some ⟨b, off, none⟩))) (hA : ∀ w, (isAgg t).run X.P w = .ok false w) (hk : M[k]? = some (blk b cs t'))
    (hv : cs.toList[off]? = some v) (h : J X ops rest ds ((d, v) :: L) M K) : J X ops (o :: rest) ds L M K :=
  J.ld ho hg hd hN hx hA (fun w hw => cellL hw k hk hv) h
/-- A whole block of one's own. -/
theorem J.ldw (k : Nat) {t t' : TypeId} {x : Operand} {b : Nat} {cs : Array Value} (ho : o.op = .load t x) (hg : o.guard = none) (hd : o.dst = some d) (hN : Nat.blt d X.N = true) (hx : evl L x = some (.pointer (some ⟨b, 0, none⟩))) (hA : ∀ w, (isAgg t).run X.P w = .ok true w) (hk : M[k]? = some (blk b cs t'))
    (hz : ∀ w, (sizeOf t).run X.P w = .ok cs.size w) (h : J X ops rest ds ((d, (.agg cs)) :: L) M K) : J X ops (o :: rest) ds L M K :=
  J.ldn (cs := cs.toList) ho hg hd hN hx hA (by simpa using hz) (fun w hw j u hu => by rw [Addr.add_mid]; exact cellO hw k hk (by simpa using hu)) h

theorem set_perm {r r' : Res} (M : List Res) (k : Nat) (hk : M[k]? = some r) : (r' :: M.eraseIdx k).Perm (M.set k r') := by
  have hlt : k < M.length := (List.getElem?_eq_some_iff.1 hk).1
  clear hk
  induction M generalizing k with
  | nil => simp at hlt
  | cons x M ih =>
    cases k with
    | zero => simp
    | succ k =>
      simp only [List.eraseIdx_cons_succ, List.set_cons_succ]
      exact (List.Perm.swap x _ _).trans ((ih k (by simpa using hlt)).cons x)
/-- A block's content turns. -/
theorem St.setObj {mu : Nat → Prop} {w0 w w' : World} {b : Nat} {o o' : Obj} (h : St mu w0 M w) (k : Nat) (hk : M[k]? = some (obj b o)) (hos : w'.os = w.os) (htape : w'.tape = w.tape) (hout : w'.output = w.output) (hsize : w'.heap.size = w.heap.size)
    (hsame : ∀ j, j ≠ b → w'.heap[j]? = w.heap[j]?) (ho : w'.heap[b]? = some o') : St mu w0 (M.set k (obj b o')) w' :=
  (St.change (r' := obj b o') (h.front k hk) hos htape hout (by omega) (fun j _ hj => hsame j hj) ho (fun j hj => .inl hj)).perm (set_perm M k hk).symm

theorem storeCells_own {P : Program} (b : Nat) (t : TypeId) : ∀ (vs : List Value) (off i : Nat) (cs : List Value) (w : World), w.heap[b]? = some (.cells cs.toArray t (0, 0)) → off + i + vs.length ≤ cs.length → (∀ v ∈ vs, v.oneCell' = true) →
    ∃ w' cs', (storeCells ⟨b, off, none⟩ vs i).run P w = .ok () w' ∧ w'.os = w.os ∧ w'.tape = w.tape ∧ w'.output = w.output ∧ w'.heap.size = w.heap.size ∧ (∀ j, j ≠ b → w'.heap[j]? = w.heap[j]?) ∧ w'.heap[b]? = some (.cells cs'.toArray t (0, 0)) ∧ cs' = cs.take (off + i) ++ vs ++ cs.drop (off + i + vs.length) := by
  intro vs
  induction vs with
  | nil =>
    intro off i cs w hw hl _
    exact ⟨w, cs, rfl, rfl, rfl, rfl, rfl, fun _ _ => rfl, hw, by simp⟩
  | cons v vs ih =>
    intro off i cs w hw hl h1
    have hv : v.oneCell' = true := h1 v (by simp)
    simp only [List.length_cons] at hl
    have hc : w.cell? ⟨b, off + i, none⟩ = some (cs[off + i]'(by omega)) := by simp [World.cell?, hw]
    have hf : w.frozen? ⟨b, off + i, none⟩ = false := by simp [World.frozen?, hw]
    have hb : (w.setCell ⟨b, off + i, none⟩ v).heap[b]? = some (.cells (cs.set (off + i) v).toArray t (0, 0)) := by
      have hlt := (Array.getElem?_eq_some_iff.1 hw).1
      simp only [World.setCell, Array.getElem?_modify, if_true]
      rw [hw]
      simp
    obtain ⟨w', cs', hr, h2, h3, h4, h5, h6, h7, h8⟩ := ih off (i + 1) (cs.set (off + i) v) (w.setCell ⟨b, off + i, none⟩ v) hb (by simp; omega) (fun u hu => h1 u (by simp [hu]))
    refine ⟨w', cs', ?_, h2, h3, h4, by rw [h5]; simp [World.setCell], fun j hj => (h6 j hj).trans (Below.heap_setCell _ _ _ _ hj), h7, ?_⟩
    · unfold storeCells
      simp only [Addr.add_mid, store, Sem.run_bind]
      have : (Sem.store .plain ⟨b, off + i, none⟩ v (.pure ())).run P w = .ok () (w.setCell ⟨b, off + i, none⟩ v) := by
        cases v <;> first | (simp [Value.oneCell'] at hv; done) | (simp [Sem.run, hc, hf])
      rw [this]
      exact hr
    · rw [h8]
      apply List.ext_getElem?
      intro j
      have e1 : (cs.take (off + i)).length = off + i := by rw [List.length_take]; omega
      have e2 : ((cs.set (off + i) v).take (off + (i + 1))).length = off + (i + 1) := by rw [List.length_take, List.length_set]; omega
      rw [List.append_assoc, List.append_assoc, List.getElem?_append (l₁ := (cs.set (off + i) v).take (off + (i + 1))), List.getElem?_append (l₁ := cs.take (off + i)), e1, e2]
      rcases Nat.lt_trichotomy j (off + i) with h | h | h
      · rw [if_pos (by omega), if_pos (by omega)]
        simp only [List.getElem?_take, List.getElem?_set, if_pos (show j < off + (i + 1) by omega), if_pos h, if_neg (show ¬ off + i = j by omega)]
      · subst h
        rw [if_pos (by omega), if_neg (by omega)]
        simp only [List.getElem?_take, List.getElem?_set, if_pos (show off + i < off + (i + 1) by omega), if_pos (show off + i < cs.length by omega)]
        simp
      · rw [if_neg (by omega), if_neg (by omega)]
        rw [show j - (off + i) = (j - (off + (i + 1))) + 1 by omega, List.cons_append, List.getElem?_cons_succ]
        congr 1
        rw [List.drop_set_of_lt (by omega), List.length_cons, show off + (i + 1) + vs.length = off + i + (vs.length + 1) by omega]

/-- A store of v's cells into a block of one's own. -/
theorem J.st (k : Nat) {t t' : TypeId} {x y : Operand} {b off : Nat} {cs : List Value} {v : Value} {vs : List Value} (ho : o.op = .store t x y) (hg : o.guard = none) (hd : o.dst = none) (hx : evl L x = some (.pointer (some ⟨b, off, none⟩))) (hy : evl L y = some v) (hv : v.cells = vs.toArray) (hz : ∀ w, (sizeOf t).run X.P w = .ok vs.length w)
    (h1 : vs.all (·.oneCell') = true) (hk : M[k]? = some (blk b cs.toArray t')) (hl : off + vs.length ≤ cs.length) {cs' : List Value} (hcs : cs.take off ++ vs ++ cs.drop (off + vs.length) = cs')
    (h : J X ops rest ds L (M.set k (blk b cs'.toArray t')) K) : J X ops (o :: rest) ds L M K := by
  intro Q hQ a w ha hw
  have hb := hw.get k hk
  obtain ⟨w', cs2, hr, h2, h3, h4, h5, h6, h7, h8⟩ := storeCells_own (P := X.P) b t' vs off 0 cs w hb (by simpa using hl) (fun v hv => by simpa using List.all_eq_true.1 h1 v hv)
  refine wpl_skip (w' := w') hg (by simp [ho]) ?_ ?_
  · unfold execOp; rw [ho]; simp only [ha.eval hx, ha.eval hy]; unfold Instr.storeAt storeVar Instr.sureAddr
    simp only [Sem.run_bind, Sem.run_pure, Result.andThen, hz, hv, List.size_toArray, ne_eq, not_true_eq_false, if_false, hr]
  · rw [hd]
    have hcs' : cs2 = cs' := by rw [← hcs, h8]; simp
    subst hcs'
    exact h Q hQ _ _ ha (hw.setObj k hk h2 h3 h4 h5 h6 h7)

/-- A whole block of one's own is written over. -/
theorem J.stw (k : Nat) {t t' : TypeId} {x y : Operand} {b : Nat} {cs : Array Value} {v : Value} {vs : Array Value} (ho : o.op = .store t x y) (hg : o.guard = none) (hd : o.dst = none) (hx : evl L x = some (.pointer (some ⟨b, 0, none⟩))) (hy : evl L y = some v) (hv : v.cells = vs) (hz : ∀ w, (sizeOf t).run X.P w = .ok vs.size w)
    (h1 : vs.toList.all (·.oneCell') = true) (hk : M[k]? = some (blk b cs t')) (hl : cs.size = vs.size) (h : J X ops rest ds L (M.set k (blk b vs t')) K) : J X ops (o :: rest) ds L M K := by
  refine J.st k (cs := cs.toList) (vs := vs.toList) ho hg hd hx hy (by simpa using hv) (by simpa using hz) h1 hk (by simp [hl]) (cs' := vs.toList) ?_ h
  rw [List.take_zero, List.nil_append, Nat.zero_add, List.drop_eq_nil_of_le (by simp [hl]), List.append_nil]
/-- One cell of a block of one's own. -/
theorem J.st1 (k : Nat) {t t' : TypeId} {x y : Operand} {b off : Nat} {cs cs' : Array Value} {v : Value} (ho : o.op = .store t x y) (hg : o.guard = none) (hd : o.dst = none) (hx : evl L x = some (.pointer (some ⟨b, off, none⟩))) (hy : evl L y = some v) (hv : v.cells = #[v]) (hz : ∀ w, (sizeOf t).run X.P w = .ok 1 w)
    (h1 : v.oneCell' = true) (hk : M[k]? = some (blk b cs t')) (hl : Nat.blt off cs.size = true) (hcs : cs.setIfInBounds off v = cs') (h : J X ops rest ds L (M.set k (blk b cs' t')) K) : J X ops (o :: rest) ds L M K := by
  have hl' : off < cs.toList.length := by simpa [Nat.blt_eq] using hl
  refine J.st k (cs := cs.toList) (vs := [v]) ho hg hd hx hy hv hz (by simpa using h1) hk (by simp only [List.length_singleton]; omega) (cs' := cs'.toList) ?_ h
  rw [← hcs, Array.toList_setIfInBounds, List.set_eq_take_append_cons_drop, if_pos hl']
  simp

/-! #### New blocks -/
theorem J.alloc {t : TypeId} {z : Value} (ho : o.op = .alloc t) (hg : o.guard = none) (hd : o.dst = some d) (hN : Nat.blt d X.N = true) (hz : ∀ w, (zeroValue t).run X.P w = .ok z w)
    (h : ∀ b, J X ops rest ds ((d, (.pointer (some ⟨b, 0, none⟩))) :: L) (blk b z.cells t :: M) K) : J X ops (o :: rest) ds L M K := by
  intro Q hQ a w ha hw
  refine wpl_val (v := .pointer (some ⟨w.heap.size, 0, none⟩)) (w' := w.alloc (.cells z.cells t)) hg (by simp [ho]) ?_ (h w.heap.size Q hQ _ _ (ha.putd hd hN _) (hw.alloc _))
  unfold execOp; rw [ho]; unfold Instr.alloc newVar newRow newObj
  simp only [Sem.run_bind, hz, Result.andThen, Sem.run_pure, Sem.run, World.alloc]
theorem J.box {t : TypeId} {x : Operand} {v : Value} (ho : o.op = .box t x) (hg : o.guard = none) (hd : o.dst = some d) (hN : Nat.blt d X.N = true) (hx : evl L x = some v)
    (h : ∀ b, J X ops rest ds ((d, (.pointer (some ⟨b, 0, none⟩))) :: L) (blk b v.cells t :: M) K) : J X ops (o :: rest) ds L M K := by
  intro Q hQ a w ha hw
  refine wpl_val (v := .pointer (some ⟨w.heap.size, 0, none⟩)) (w' := w.alloc (.cells v.cells t)) hg (by simp [ho]) ?_ (h w.heap.size Q hQ _ _ (ha.putd hd hN _) (hw.alloc _))
  unfold execOp; rw [ho]; simp only [ha.eval hx]; unfold Instr.box newVar newRow newObj
  simp only [Sem.run_bind, Result.andThen, Sem.run_pure, Sem.run, World.alloc]

/-- A value's cells, as they are written. -/
def cellsOf : Value → Option (Array Value)
  | .agg cs => some cs
  | .bool b => some #[.bool b]
  | .int k i => some #[.int k i]
  | .string s => some #[.string s]
  | .pointer p => some #[.pointer p]
  | .slice a n c => some #[.slice a n c]
  | .func f a b => some #[.func f a b]
  | .iface t v => some #[.iface t v]
  | .nilIface => some #[.nilIface]
  | .nilFunc => some #[.nilFunc]
  | .map r => some #[.map r]
  | _ => none
theorem cellsOf_spec {v : Value} {cs : Array Value} (h : cellsOf v = some cs) : v.cells = cs := by
  cases v <;> simp [cellsOf] at h <;> exact h
theorem J.allocc {t : TypeId} {z : Value} {cs : Array Value} (ho : o.op = .alloc t) (hg : o.guard = none) (hd : o.dst = some d) (hN : Nat.blt d X.N = true) (hz : ∀ w, (zeroValue t).run X.P w = .ok z w) (hcs : cellsOf z = some cs)
    (h : ∀ b, J X ops rest ds ((d, (.pointer (some ⟨b, 0, none⟩))) :: L) (blk b cs t :: M) K) : J X ops (o :: rest) ds L M K := by
  have e := cellsOf_spec hcs
  subst e
  exact J.alloc ho hg hd hN hz h
theorem J.boxc {t : TypeId} {x : Operand} {v : Value} {cs : Array Value} (ho : o.op = .box t x) (hg : o.guard = none) (hd : o.dst = some d) (hN : Nat.blt d X.N = true) (hx : evl L x = some v) (hcs : cellsOf v = some cs)
    (h : ∀ b, J X ops rest ds ((d, (.pointer (some ⟨b, 0, none⟩))) :: L) (blk b cs t :: M) K) : J X ops (o :: rest) ds L M K := by
  have e := cellsOf_spec hcs
  subst e
  exact J.box ho hg hd hN hx h
/-- A whole block of one's own is written over, by cells as they are written. -/
theorem J.stwc (k : Nat) {t t' : TypeId} {x y : Operand} {b : Nat} {cs : Array Value} {v : Value} {vs : Array Value} (ho : o.op = .store t x y) (hg : o.guard = none) (hd : o.dst = none) (hx : evl L x = some (.pointer (some ⟨b, 0, none⟩))) (hy : evl L y = some v) (hv : cellsOf v = some vs) (hz : ∀ w, (sizeOf t).run X.P w = .ok vs.size w)
    (h1 : vs.toList.all (·.oneCell') = true) (hk : M[k]? = some (blk b cs t')) (hl : cs.size = vs.size) (h : J X ops rest ds L (M.set k (blk b vs t')) K) : J X ops (o :: rest) ds L M K :=
  J.stw k ho hg hd hx hy (cellsOf_spec hv) hz h1 hk hl h

/-- Operands with their numbers, looked up. -/
def evls (L : Env) : List (Nat × Operand) → Option (List (Nat × Value))
  | [] => some []
  | (i, x) :: r => match evl L x, evls L r with | some v, some vs => some ((i, v) :: vs) | _, _ => none
theorem Has.evls {N : Nat} {a : Act} (ha : Has N ds L a) : ∀ (l : List (Nat × Operand)) (vs : List (Nat × Value)), evls L l = some vs → l.map (fun (i, x) => (i, a.eval x)) = vs
  | [], vs, h => by cases h; rfl
  | (i, x) :: r, vs, h => by
    simp only [Go.Proofs.YtiminmnmeknioaaDoor.evls] at h
    split at h
    · rename_i v us h1 h2
      injection h with h
      subst h
      simp [ha.eval h1, Has.evls ha r us h2]
    · cases h
theorem J.bld {t : TypeId} {parts : Array (Nat × Operand)} {vs : List (Nat × Value)} {z : Value} {fs : Array Field} {cells : Array Value} {pl : Array (Nat × Nat)} (ho : o.op = .build t parts) (hg : o.guard = none) (hd : o.dst = some d) (hN : Nat.blt d X.N = true) (hvs : evls L parts.toList = some vs) (hz : ∀ w, (zeroValue t).run X.P w = .ok z w) (hu : ∀ w, (underlying t).run X.P w = .ok (.struct fs) w)
    (hp : ∀ w, (fs.mapM fun f => do pure (f.offset, ← sizeOf f.type) : Sem (Array (Nat × Nat))).run X.P w = .ok pl w) (hf : Instr.fill (pl[·]?) z.cells vs = some cells) (h : J X ops rest ds ((d, (.agg cells)) :: L) M K) : J X ops (o :: rest) ds L M K :=
  J.val hg hd hN (by simp [ho]) (fun a w ha hw => by
    have h1 : (parts.map fun (i, x) => (i, a.eval x)).toList = vs := by rw [Array.toList_map]; exact ha.evls _ _ hvs
    unfold execOp; rw [ho]; simp only; unfold Instr.build
    simp only [Sem.run_bind, hz, Result.andThen, hu, hp, h1, hf, Sem.run_pure]) h
theorem fold_set (xs : List Value) : ∀ (off k : Nat) (cs : List Value), off + k + xs.length ≤ cs.length →
    ((xs.zipIdx k).foldl (fun (acc : Array Value) (p : Value × Nat) => acc.setIfInBounds (off + p.2) p.1) cs.toArray).toList = cs.take (off + k) ++ xs ++ cs.drop (off + k + xs.length) := by
  induction xs with
  | nil => intro off k cs h; simp
  | cons x xs ih =>
    intro off k cs h
    simp only [List.length_cons] at h
    simp only [List.zipIdx_cons, List.foldl_cons, List.setIfInBounds_toArray]
    rw [ih off (k + 1) (cs.set (off + k) x) (by simp; omega)]
    have e1 : (cs.take (off + k)).length = off + k := by rw [List.length_take]; omega
    have h2 : (cs.set (off + k) x).take (off + (k + 1)) = cs.take (off + k) ++ [x] := by
      rw [show off + (k + 1) = (off + k) + 1 by omega, List.take_succ_eq_append_getElem (by simp; omega), List.take_set_of_le (Nat.le_refl _)]
      simp
    rw [h2, List.drop_set_of_lt (by omega)]
    simp only [List.length_cons, List.append_assoc, List.cons_append, List.nil_append, show off + (k + 1) + xs.length = off + k + (xs.length + 1) by omega]
/-- The parts of a literal, all of them, in order. -/
def partsOf (k : Nat) : List Value → List (Nat × Value)
  | [] => []
  | v :: vs => (k, v) :: partsOf (k + 1) vs
theorem fill_parts (sz : Nat) : ∀ (vs : List Value) (k : Nat) (cs : List Value), (∀ v ∈ vs, v.cells.size = sz) → k * sz + vs.length * sz ≤ cs.length →
    Instr.fill (fun i => some (i * sz, sz)) cs.toArray (partsOf k vs) = some (cs.take (k * sz) ++ vs.flatMap (·.cells.toList) ++ cs.drop (k * sz + vs.length * sz)).toArray := by
  intro vs
  induction vs with
  | nil => intro k cs _ _; simp [partsOf, Instr.fill]
  | cons v vs ih =>
    intro k cs hv hl
    have h1 : v.cells.size = sz := hv v (by simp)
    simp only [List.length_cons, Nat.add_mul, Nat.one_mul] at hl
    simp only [partsOf, Instr.fill]
    rw [if_neg (by simp [h1]; omega)]
    have hf := fold_set v.cells.toList (k * sz) 0 cs (by simp [h1]; omega)
    have e : (v.cells.zipIdx.foldl (fun cs (c, j) => cs.setIfInBounds (k * sz + j) c) cs.toArray) = (cs.take (k * sz) ++ v.cells.toList ++ cs.drop (k * sz + sz)).toArray := by
      rw [← Array.toList_inj]
      rw [← Array.foldl_toList, Array.toList_zipIdx]
      have := hf
      simp only [Nat.add_zero, Array.length_toList, h1] at this
      exact this
    simp only [e]
    have e1 : (cs.take (k * sz)).length = k * sz := by rw [List.length_take]; omega
    have e2 : (cs.take (k * sz) ++ v.cells.toList).length = (k + 1) * sz := by rw [List.length_append, e1]; simp [h1, Nat.add_mul]
    rw [ih (k + 1) _ (fun u hu => hv u (by simp [hu])) (by rw [List.length_append, e2, List.length_drop, Nat.add_mul]; omega)]
    congr 2
    rw [← e2, List.take_left' rfl, List.flatMap_cons]
    rw [show (cs.take (k * sz) ++ v.cells.toList).length + vs.length * sz = (cs.take (k * sz) ++ v.cells.toList).length + (vs.length * sz) from rfl, List.drop_append, List.drop_eq_nil_of_le (by omega)]
    simp only [Nat.add_sub_cancel_left, List.nil_append, List.drop_drop, List.append_assoc, List.length_cons, Nat.add_mul, Nat.one_mul]
    congr 4
    omega
theorem fill_all (sz n : Nat) (z : Array Value) (vs : List Value) (hn : vs.length = n) (hv : ∀ v ∈ vs, v.cells.size = sz) : Instr.fill (fun i => some (i * sz, sz)) ((Array.range (n * sz)).map (z[· % z.size]!)) (partsOf 0 vs) = some (vs.flatMap (·.cells.toList)).toArray := by
  have h := fill_parts sz vs 0 ((Array.range (n * sz)).map (z[· % z.size]!)).toList hv (by simp [hn])
  rw [Array.toArray_toList] at h
  rw [h]
  congr 2
  rw [List.drop_eq_nil_of_le (by simp [hn])]
  simp
theorem J.blds {t e : TypeId} {n sz : Nat} {parts : Array (Nat × Operand)} {vs : List Value} {z : Value} {cells : List Value} (ho : o.op = .buildSlice t n parts) (hg : o.guard = none) (hd : o.dst = some d) (hN : Nat.blt d X.N = true) (hvs : evls L parts.toList = some (partsOf 0 vs)) (hz : ∀ w, (zeroValue e).run X.P w = .ok z w) (hu : ∀ w, (underlying t).run X.P w = .ok (.slice e) w)
    (hs : ∀ w, (sizeOf e).run X.P w = .ok sz w) (hl : Nat.ble (n * sz) 16777216 = true) (hn : vs.length = n) (hv : vs.all (fun v => Nat.beq v.cells.size sz) = true) (hc : vs.flatMap (·.cells.toList) = cells)
    (h : ∀ b, J X ops rest ds ((d, (.slice (some ⟨b, 0, none⟩) n n)) :: L) (blk b cells.toArray e :: M) K) : J X ops (o :: rest) ds L M K := by
  intro Q hQ a w ha hw
  refine wpl_val (v := .slice (some ⟨w.heap.size, 0, none⟩) n n) (w' := w.alloc (.cells cells.toArray e)) hg (by simp [ho]) ?_ (h w.heap.size Q hQ _ _ (ha.putd hd hN _) (hw.alloc _))
  have h1 : (parts.map fun (i, x) => (i, a.eval x)).toList = partsOf 0 vs := by rw [Array.toList_map]; exact ha.evls _ _ hvs
  unfold execOp; rw [ho]; simp only; unfold Instr.buildSlice newRow newObj
  have hl' : ¬ (n * sz > 2 ^ 24) := by have := Nat.le_of_ble_eq_true hl; omega
  have hv' : ∀ v ∈ vs, v.cells.size = sz := fun v hv2 => by
    have := List.all_eq_true.1 hv v hv2
    exact Nat.eq_of_beq_eq_true this
  by_cases hn' : n * sz = 0
  · have hf := fill_all sz n #[] vs hn hv'
    rw [hn'] at hf
    simp only [hc] at hf
    have hf2 : Instr.fill (fun i => some (i * sz, sz)) ((Array.range 0).map (fun x => (#[] : Array Value)[x % (#[] : Array Value).size]!)) (partsOf 0 vs) = some cells.toArray := hf
    have h00 : ¬ ((0 : Nat) > 2 ^ 24) := by decide
    simp only [Sem.run_bind, Result.andThen, hu, hs, hn', if_neg h00, if_true, Sem.run_pure, h1]
    simp only [hf2, Sem.run_bind, Sem.run_pure, Result.andThen, Sem.run, World.alloc]
  · have hf := fill_all sz n z.cells vs hn hv'
    simp only [hc] at hf
    simp only [Sem.run_bind, hz, Result.andThen, hu, hs, if_neg hl', if_neg hn', Sem.run_pure, h1, hf, Sem.run, World.alloc]

/-! #### len, slices -/
theorem J.len {t : TypeId} {x : Operand} {A : Option Addr} {n c : Nat} {e : TypeId} (ho : o.op = .call { callee := .builtin .len, args := #[x], argTypes := #[t] }) (hg : o.guard = none) (hd : o.dst = some d) (hN : Nat.blt d X.N = true) (hx : evl L x = some (.slice A n c)) (hu : ∀ w, (underlying t).run X.P w = .ok (.slice e) w)
    (h : J X ops rest ds ((d, (.int .i64 n)) :: L) M K) : J X ops (o :: rest) ds L M K :=
  J.val hg hd hN (by simp [ho]) (fun a w ha hw => by
    unfold execOp; rw [ho]; simp only [resolve, invoke, builtin, List.map_toArray, List.map_cons, List.map_nil, ha.eval hx, Sem.run_bind, Sem.run_pure, Result.andThen]
    unfold Builtin.len_
    simp only [List.getElem?_toArray, List.getElem?_cons_zero, Sem.run_bind, hu, Result.andThen, Sem.run_pure, goInt]) h
theorem J.lens {t : TypeId} {x : Operand} {s : ByteArray} (ho : o.op = .call { callee := .builtin .len, args := #[x], argTypes := #[t] }) (hg : o.guard = none) (hd : o.dst = some d) (hN : Nat.blt d X.N = true) (hx : evl L x = some (.string s)) (hu : ∀ w, (underlying t).run X.P w = .ok .string w)
    (h : J X ops rest ds ((d, (.int .i64 s.size)) :: L) M K) : J X ops (o :: rest) ds L M K :=
  J.val hg hd hN (by simp [ho]) (fun a w ha hw => by
    unfold execOp; rw [ho]; simp only [resolve, invoke, builtin, List.map_toArray, List.map_cons, List.map_nil, ha.eval hx, Sem.run_bind, Sem.run_pure, Result.andThen]
    unfold Builtin.len_
    simp only [List.getElem?_toArray, List.getElem?_cons_zero, Sem.run_bind, hu, Result.andThen, Sem.run_pure, goInt]) h
/-- A reslicing, by its run. -/
theorem J.slc {t : TypeId} {x : Operand} {lo hi mx : Option Operand} {u v : Value} {l1 h1 m1 : Option Value} (ho : o.op = .slice t x lo hi mx) (hg : o.guard = none) (hd : o.dst = some d) (hN : Nat.blt d X.N = true) (hx : evl L x = some u) (hl : lo.map (evl L) = l1.map some) (hh : hi.map (evl L) = h1.map some) (hm : mx.map (evl L) = m1.map some)
    (hr : ∀ w, (Instr.sliceAt t u l1 h1 m1).run X.P w = .ok v w) (h : J X ops rest ds ((d, v) :: L) M K) : J X ops (o :: rest) ds L M K := by
  have key : ∀ (a : Act) (y : Option Operand) (z : Option Value), Has X.N ds L a → y.map (evl L) = z.map some → y.map a.eval = z := by
    intro a y z ha hy
    cases y with
    | none => cases z <;> simp at hy ⊢
    | some y =>
      cases z with
      | none => simp at hy
      | some z => simp only [Option.map_some, Option.some.injEq] at hy ⊢; exact ha.eval hy
  exact J.val hg hd hN (by simp [ho]) (fun a w ha hw => by
    unfold execOp; rw [ho]; simp only [ha.eval hx, key a _ _ ha hl, key a _ _ ha hh, key a _ _ ha hm, Sem.run_bind, hr, Result.andThen, Sem.run_pure]) h

/-! #### Calls -/
theorem J.call {f : FuncId} {args : Array Operand} {ts : Array TypeId} {vs : List Value} {R : World → Ending → World → Prop} (ho : o.op = .call { callee := .value (.func f), args := args, argTypes := ts }) (hg : o.guard = none) (hd : o.dst = some d) (hN : Nat.blt d X.N = true) (hvs : args.toList.mapM (evl L) = some vs) (hcall : ∀ args w, (callFunc f args).run X.P w = .ok (.enter f args) w)
    (hc : ∀ w, St X.mu X.w0 M w → Calls X.P f vs.toArray w (R w)) (h : ∀ w e w', St X.mu X.w0 M w → R w e w' → ∃ v M', e = .returned v ∧ St X.mu X.w0 M' w' ∧ J X ops rest ds ((d, v) :: L) M' K) : J X ops (o :: rest) ds L M K := by
  intro Q hQ a w ha hw
  have key : ∀ (l : List Operand) (us : List Value), l.mapM (evl L) = some us → l.map a.eval = us := by
    intro l
    induction l with
    | nil => intro us h; simp at h; simp [h]
    | cons y l ih =>
      intro us h
      simp only [List.mapM_cons, Option.bind_eq_bind, Option.bind_eq_some_iff, Option.pure_def] at h
      obtain ⟨u, hu, us', hus, h3⟩ := h
      injection h3 with h3
      subst h3
      simp [ha.eval hu, ih us' hus]
  have hm : args.map a.eval = vs.toArray := by
    rw [← Array.toList_inj]; simpa using key _ _ hvs
  refine wpl_enter (f := f) (args := vs.toArray) (w' := w) hg (by simp [ho]) ?_ ((hc w hw).mono fun e w' hR => ?_)
  · unfold execOp; rw [ho]
    simp only [resolve, Act.eval, Deferred.ofValue, Sem.run_bind, Sem.run_pure, Result.andThen, invoke]
    have : Array.map a.eval args = vs.toArray := hm
    simp only [this, Array.empty_append, Array.append_empty, hcall]
  · obtain ⟨v, M', rfl, h1, h2⟩ := h w e w' hw hR
    exact ⟨v, rfl, h2 Q hQ _ _ (ha.putd hd hN v) h1⟩
end
end Go.Proofs.YtiminmnmeknioaaDoor
/- Contracts, and the rules at a call and at a return. -/
set_option linter.unusedVariables false
set_option linter.unusedSimpArgs false
namespace Go.Proofs.YtiminmnmeknioaaDoor
open Go Go.RowKit

/-- A call that answers a plain value, and may make memory. -/
def Ret0 (w : World) (v : Value) (e : Ending) (w' : World) : Prop := e = .returned v ∧ Below w.heap.size w w'
/-- A call that answers memory of its own. -/
def Ret (w : World) (Φ : Value → Res → Prop) (e : Ending) (w' : World) : Prop :=
  ∃ v r, e = .returned v ∧ Below w.heap.size w w' ∧ r.hold w' ∧ (∀ b, r.fp b → w.heap.size ≤ b ∧ b < w'.heap.size) ∧ Φ v r

section
variable {X : Cfg} {ops : Array Oper} {rest : List Oper} {o : Oper} {ds : List Deferred} {L : Env} {M : List Res} {K : Kont}
theorem J.call0 {f : FuncId} {args : Array Operand} {ts : Array TypeId} {d : Nat} {vs : List Value} {v : Value} (ho : o.op = .call { callee := .value (.func f), args := args, argTypes := ts }) (hg : o.guard = none) (hd : o.dst = some d) (hN : Nat.blt d X.N = true) (hvs : args.toList.mapM (evl L) = some vs) (hcall : ∀ args w, (callFunc f args).run X.P w = .ok (.enter f args) w)
    (hc : ∀ w, St X.mu X.w0 M w → Calls X.P f vs.toArray w (Ret0 w v)) (h : J X ops rest ds ((d, v) :: L) M K) : J X ops (o :: rest) ds L M K := by
  refine J.call ho hg hd hN hvs hcall hc ?_
  rintro w e w' hw ⟨rfl, hb⟩
  exact ⟨v, M, rfl, hw.grow0 hb, h⟩
theorem J.callr {f : FuncId} {args : Array Operand} {ts : Array TypeId} {d : Nat} {vs : List Value} {Φ : Value → Res → Prop} (ho : o.op = .call { callee := .value (.func f), args := args, argTypes := ts }) (hg : o.guard = none) (hd : o.dst = some d) (hN : Nat.blt d X.N = true) (hvs : args.toList.mapM (evl L) = some vs) (hcall : ∀ args w, (callFunc f args).run X.P w = .ok (.enter f args) w)
    (hc : ∀ w, St X.mu X.w0 M w → Calls X.P f vs.toArray w (Ret w Φ)) (h : ∀ v r, Φ v r → J X ops rest ds ((d, v) :: L) (r :: M) K) : J X ops (o :: rest) ds L M K := by
  refine J.call ho hg hd hN hvs hcall hc ?_
  rintro w e w' hw ⟨v, r, rfl, hb, hr, hf, hΦ⟩
  exact ⟨v, r :: M, rfl, hw.grow hb hr hf, h v r hΦ⟩
end

/-- A call that may write the blocks of mu. -/
def RetM (mu : Nat → Prop) (w : World) (Φ : Value → Res → Prop) (e : Ending) (w' : World) : Prop :=
  ∃ v r, e = .returned v ∧ Frm mu w w' ∧ r.hold w' ∧ (∀ b, r.fp b → mu b ∨ (w.heap.size ≤ b ∧ b < w'.heap.size)) ∧ Φ v r
theorem St.init1 {w : World} {r : Res} (hr : r.hold w) (hlt : ∀ b, r.fp b → b < w.heap.size) : St r.fp w [r] w :=
  ⟨Frm.refl _ _, (by simpa using hr), (by intro s hs b hb; rw [List.mem_singleton] at hs; subst hs; exact ⟨.inr hb, hlt b hb⟩), List.pairwise_singleton _ _⟩
section
variable {X : Cfg} {ops : Array Oper} {rest : List Oper} {o : Oper} {ds : List Deferred} {L : Env} {M : List Res} {K : Kont}
theorem J.callm (k : Nat) {f : FuncId} {args : Array Operand} {ts : Array TypeId} {d : Nat} {vs : List Value} {r0 : Res} {Φ : Value → Res → Prop} (ho : o.op = .call { callee := .value (.func f), args := args, argTypes := ts }) (hg : o.guard = none) (hd : o.dst = some d) (hN : Nat.blt d X.N = true) (hvs : args.toList.mapM (evl L) = some vs) (hcall : ∀ args w, (callFunc f args).run X.P w = .ok (.enter f args) w)
    (hk : M[k]? = some r0) (hc : ∀ w, St X.mu X.w0 M w → Calls X.P f vs.toArray w (RetM r0.fp w Φ)) (h : ∀ v r, Φ v r → J X ops rest ds ((d, v) :: L) (M.set k r) K) : J X ops (o :: rest) ds L M K := by
  refine J.call ho hg hd hN hvs hcall hc ?_
  rintro w e w' hw ⟨v, r, rfl, hf, hr, hb, hΦ⟩
  refine ⟨v, M.set k r, rfl, ?_, h v r hΦ⟩
  exact ((hw.front k hk).change hf.os hf.tape hf.output hf.size hf.block hr hb).perm (set_perm M k hk).symm
end
theorem St.retM {mu : Nat → Prop} {w w' : World} {M : List Res} (h : St mu w M w') (k : Nat) {r : Res} (hk : M[k]? = some r) {v : Value} {Φ : Value → Res → Prop} (hΦ : Φ v r) : RetM mu w Φ (.returned v) w' :=
  ⟨v, r, rfl, h.frm, h.get k hk, fun b hb => (h.bd k hk hb).1.symm.imp id (fun h1 => ⟨h1, (h.bd k hk hb).2⟩), hΦ⟩

/-! ### Results -/
def rvRun (rv : ResultVar) (tmps : Array Value) : Sem Value := match rv with
  | .tmp t => pure (tmps.getD t undef)
  | .cell a t => do loadVar t (← asAddr (tmps.getD a undef))
def RV (P : Program) (N : Nat) (mu : Nat → Prop) (w : World) (L : Env) (M : List Res) (rv : ResultVar) (v : Value) : Prop :=
  ∀ a w', Has N [] L a → St mu w M w' → (rvRun rv a.tmps).run P w' = .ok v w'
section
variable {P : Program} {N : Nat} {mu : Nat → Prop} {w : World} {L : Env} {M : List Res}
theorem RV.tmp {t : Nat} {v : Value} (h : L.lookup t = some v) : RV P N mu w L M (.tmp t) v := fun a w' ha hw => by
  show Result.ok _ _ = _
  rw [ha.get t v h]
theorem RV.cellw (k : Nat) {p : Nat} {t t' : TypeId} {b : Nat} {cs : Array Value} (h : L.lookup p = some (.pointer (some ⟨b, 0, none⟩))) (hA : ∀ w, (isAgg t).run P w = .ok true w) (hk : M[k]? = some (blk b cs t')) (hz : ∀ w, (sizeOf t).run P w = .ok cs.size w) : RV P N mu w L M (.cell p t) (.agg cs) := fun a w' ha hw => by
  unfold rvRun loadVar asAddr
  have := run_loadCells_list (P := P) w' ⟨b, 0, none⟩ cs.toList (fun j u hu => by rw [Addr.add_mid]; exact cellO hw k hk (by simpa using hu))
  simp only [Array.length_toList] at this
  simp only [ha.get p _ h, Sem.run_bind, Sem.run_pure, Result.andThen, hA, hz, if_true, this, Array.toArray_toList]
theorem RV.cell1 (k : Nat) {p : Nat} {t t' : TypeId} {b : Nat} {cs : Array Value} {v : Value} (h : L.lookup p = some (.pointer (some ⟨b, 0, none⟩))) (hA : ∀ w, (isAgg t).run P w = .ok false w) (hk : M[k]? = some (blk b cs t')) (hv : cs[0]? = some v) : RV P N mu w L M (.cell p t) v := fun a w' ha hw => by
  unfold rvRun loadVar asAddr
  simp only [ha.get p _ h, Sem.run_bind, Sem.run_pure, Result.andThen, hA, Bool.false_eq_true, if_false, load, Sem.run, cellO hw k hk hv]

variable {fn : Func} {R : Ending → World → Prop}
theorem results_eq (fn : Func) (tmps : Array Value) : results fn tmps = (do
    let vs ← fn.results.mapM fun rv => rvRun rv tmps
    pure (if h : vs.size = 1 then vs[0] else .tuple vs)) := rfl
theorem fin1 {r1 : ResultVar} {v1 : Value} (hr : fn.results = #[r1]) (h1 : RV P N mu w L M r1 v1) (h : ∀ w', St mu w M w' → R (.returned v1) w') : Fin_ P fn N mu w R [] L M := by
  refine ⟨rfl, fun a w' ha hw => ⟨v1, ?_, h w' hw⟩⟩
  have e1 := h1 a w' ha hw
  rw [results_eq, hr]
  simp only [Sem.run_bind, List.mapM_toArray, List.mapM_cons, List.mapM_nil, e1, Result.andThen, Sem.run_pure, Sem.run_map]
  rfl
theorem fin2 {r1 r2 : ResultVar} {v1 v2 : Value} (hr : fn.results = #[r1, r2]) (h1 : RV P N mu w L M r1 v1) (h2 : RV P N mu w L M r2 v2) (h : ∀ w', St mu w M w' → R (.returned (.tuple #[v1, v2])) w') : Fin_ P fn N mu w R [] L M := by
  refine ⟨rfl, fun a w' ha hw => ⟨_, ?_, h w' hw⟩⟩
  have e1 := h1 a w' ha hw
  have e2 := h2 a w' ha hw
  rw [results_eq, hr]
  simp only [Sem.run_bind, List.mapM_toArray, List.mapM_cons, List.mapM_nil, e1, e2, Result.andThen, Sem.run_pure, Sem.run_map]
  rfl
theorem fin3 {r1 r2 r3 : ResultVar} {v1 v2 v3 : Value} (hr : fn.results = #[r1, r2, r3]) (h1 : RV P N mu w L M r1 v1) (h2 : RV P N mu w L M r2 v2) (h3 : RV P N mu w L M r3 v3) (h : ∀ w', St mu w M w' → R (.returned (.tuple #[v1, v2, v3])) w') : Fin_ P fn N mu w R [] L M := by
  refine ⟨rfl, fun a w' ha hw => ⟨_, ?_, h w' hw⟩⟩
  have e1 := h1 a w' ha hw
  have e2 := h2 a w' ha hw
  have e3 := h3 a w' ha hw
  rw [results_eq, hr]
  simp only [Sem.run_bind, List.mapM_toArray, List.mapM_cons, List.mapM_nil, e1, e2, e3, Result.andThen, Sem.run_pure, Sem.run_map]
  rfl
end
section
variable {w w' : World} {M : List Res}
theorem St.ret0 (h : St No w M w') {v : Value} : Ret0 w v (.returned v) w' := ⟨rfl, h.below⟩
theorem St.ret (h : St No w M w') (k : Nat) {r : Res} (hk : M[k]? = some r) {v : Value} {Φ : Value → Res → Prop} (hΦ : Φ v r) : Ret w Φ (.returned v) w' :=
  ⟨v, r, rfl, h.below, h.get k hk, fun b hb => ⟨(h.bd k hk hb).1.resolve_right (fun h => h), (h.bd k hk hb).2⟩, hΦ⟩
end

/-! ### Whole numbers -/
section
variable {P : Program} {w : World}
theorem ra_add {t : TypeId} {x y : Int} (h : -9223372036854775808 ≤ x + y ∧ x + y ≤ 9223372036854775807) : (binOp .add t (.int .i64 x) (.int .i64 y)).run P w = .ok (.int .i64 (x + y)) w := by
  show Result.ok (Value.int .i64 (IntKind.i64.wrap (x + y))) w = _
  rw [IntWalk.i64_in _ h]
theorem ra_sub {t : TypeId} {x y : Int} (h : -9223372036854775808 ≤ x - y ∧ x - y ≤ 9223372036854775807) : (binOp .sub t (.int .i64 x) (.int .i64 y)).run P w = .ok (.int .i64 (x - y)) w := by
  show Result.ok (Value.int .i64 (IntKind.i64.wrap (x - y))) w = _
  rw [IntWalk.i64_in _ h]
theorem ra_mul {t : TypeId} {x y : Int} (h : -9223372036854775808 ≤ x * y ∧ x * y ≤ 9223372036854775807) : (binOp .mul t (.int .i64 x) (.int .i64 y)).run P w = .ok (.int .i64 (x * y)) w := by
  show Result.ok (Value.int .i64 (IntKind.i64.wrap (x * y))) w = _
  rw [IntWalk.i64_in _ h]
end
end Go.Proofs.YtiminmnmeknioaaDoor
/- Regions that draw their order: an operation that reads is taken first; whatever else comes up in its turn. -/
set_option linter.unusedVariables false
set_option linter.unusedSimpArgs false
namespace Go.Proofs.YtiminmnmeknioaaDoor
open Go Go.RowKit

section
variable {P : Program} {ro : Option Nat} {n : Nat} {ops : Array Oper} {Q : Exit → Act → World → Prop} {S : World → Prop}

/-- In this frame the operation yields v, in every world of S; or it is passed over. -/
def Gives (P : Program) (ops : Array Oper) (S : World → Prop) (o : Oper) (v : Value) (a : Act) : Prop := if Region.wanted o (yielded ops a.tmps) = true then ∀ w, S w → (execOp a.eval o).run P w = .ok (.value v) w else v = undef

/-- Whatever order: S holds behind every operation but the last one, f. -/
def anyF (P : Program) (ro : Option Nat) (n : Nat) (ops : Array Oper) (Q : Exit → Act → World → Prop) (S : World → Prop) (f : Nat) : Nat → Array Bool → Act → World → Prop
  | 0, listed, a, w => Region.ready .any ops listed = [] ∧ Q .normal a w
  | fuel + 1, listed, a, w => (Region.ready .any ops listed = [] → Q .normal a w) ∧
    ∀ i ∈ Region.ready .any ops listed, wpOpIn (FW ro) n P ops Q i (fun a' w' => (i ≠ f → S w') ∧ anyF P ro n ops Q S f fuel (listed.setIfInBounds i true) a' w') a w

theorem any_of_F {f : Nat} : ∀ (fuel : Nat) (listed : Array Bool) (a : Act) (w : World), anyF P ro n ops Q S f fuel listed a w → wpAnyIn (FW ro) n P .any ops Q fuel listed a w
  | 0, _, _, _, h => h
  | fuel + 1, _, _, _, h => ⟨h.1, fun i hi => wpOpIn_mono (fun a' w' h' => any_of_F fuel _ a' w' h'.2) (h.2 i hi)⟩

theorem swap_op {j : Nat} {oi oj : Oper} {v : Value} (hj : ops[j]? = some oj) (hap : oi.apart ops oj = true) (hsi : ∀ cs b, oi.op ≠ .select cs b) (hsj : ∀ cs b, oj.op ≠ .select cs b) (hdj : ∀ c, oj.op ≠ .defer c)
    (hQ : ∀ c a w, ¬ Q (.panic c) a w) {K : Act → World → Prop} {a : Act} {w : World} (hy : Gives P ops S oi v a) (h : wpOpIn (FW ro) n P ops Q j K (a.put oi.dst v) w) :
    wpOpIn (FW ro) n P ops Q j (fun a' w' => Gives P ops S oi v a' ∧ K (a'.put oi.dst v) w') a w := by
  obtain ⟨h1, h2, h3⟩ := Oper.apart_spec hap
  have keep : ∀ (a : Act), Gives P ops S oi v a → ∀ u, Gives P ops S oi v (a.put oj.dst u) := fun a hy u => by
    unfold Gives at hy ⊢
    rw [wanted_put oi a oj.dst u h3]
    split at hy
    · rename_i hw
      rw [if_pos hw]
      intro w hS
      rw [execOp_put oi hsi a oj.dst u h3]; exact hy w hS
    · rename_i hw
      rw [if_neg hw]; exact hy
  have keepD : ∀ d, Gives P ops S oi v { a with defers := d :: a.defers } := fun d => hy
  unfold wpOpIn at *
  simp only [hj] at *
  rw [wanted_put oj a oi.dst v h1] at h
  by_cases hw : Region.wanted oj (yielded ops a.tmps) = true
  · simp only [hw, if_true] at h ⊢
    refine ⟨fun _ _ => trivial, ?_⟩
    have h := h.2
    rw [Oper.semAt_eq _ _ _ hdj, execOp_put oj hsj a oi.dst v h1] at h
    rw [Oper.semAt_eq _ _ _ hdj]
    generalize (execOp a.eval oj).run P w = r at *
    cases r with
    | ok x w' =>
      cases x <;> simp only [Oper.uponIn] at h ⊢
      case value u => exact ⟨keep a hy u, by rw [← Act.put_comm a v u h2]; exact h⟩
      case skip => exact ⟨keep a hy _, by rw [← Act.put_comm a v undef h2]; exact h⟩
      case defer d =>
        refine ⟨keep _ (keepD d) _, ?_⟩
        rw [← Act.put_comm _ v undef h2, ← Act.put_defers]
        exact h
      case enter f args =>
        refine ⟨h.1, CallsIn.mono h.2 fun e w'' he => ?_⟩
        cases e with
        | returned u => exact ⟨keep a hy u, by rw [← Act.put_comm a v u h2]; exact he⟩
        | panicked c => exact absurd he (hQ _ _ _)
        | outgrown => exact he
      case row row args => exact ⟨h.1, RowsIn.mono h.2 fun u w'' he => ⟨keep a hy u, by rw [← Act.put_comm a v u h2]; exact he⟩⟩
      case round l f tmps assign body =>
        refine ⟨h.1, RoundIn.mono h.2 fun e w'' he => ?_⟩
        cases e with
        | returned u => exact ⟨keep a hy u, by rw [← Act.put_comm a v u h2]; exact he⟩
        | panicked c => exact absurd he (hQ _ _ _)
        | outgrown => exact he
    | halt x w' =>
      cases x <;> simp only [Oper.uponIn] at h ⊢
      case panic u => exact absurd h (hQ _ _ _)
  · simp only [hw, Bool.false_eq_true, if_false] at h ⊢
    exact ⟨fun _ _ => trivial, keep a hy _, by rw [← Act.put_comm a v undef h2]; exact h.2⟩

theorem Gives.wpOp {i : Nat} {o : Oper} {v : Value} {a : Act} (hi : ops[i]? = some o) (hd : ∀ c, o.op ≠ .defer c) (hy : Gives P ops S o v a) {K : Act → World → Prop} {w : World} (hS : S w) (h : K (a.put o.dst v) w) : wpOpIn (FW ro) n P ops Q i K a w := by
  unfold wpOpIn
  unfold Gives at hy
  simp only [hi]
  split at hy
  · rename_i hw
    rw [if_pos hw]
    refine ⟨fun _ _ => trivial, ?_⟩
    rw [Oper.semAt_eq _ _ _ hd, hy w hS]
    exact h
  · rename_i hw
    rw [if_neg hw]
    subst hy
    exact ⟨fun _ _ => trivial, h⟩

/-- No operation of the region defers. -/
def noDefer (ops : Array Oper) : Bool := ops.all fun o => match o.op with | .defer _ => false | _ => true
theorem noDefer_spec (h : noDefer ops = true) (j : Nat) (o : Oper) (ho : ops[j]? = some o) : ∀ c, o.op ≠ .defer c := by
  intro c hc
  have hm : o ∈ ops := Array.mem_of_getElem? ho
  have := Array.all_eq_true'.1 h o hm
  rw [hc] at this
  cases this
/-- Operation a waits for i, maybe by way of others. -/
def waitsIn (ops : Array Oper) : Nat → Nat → Nat → Bool
  | 0, _, _ => false
  | k + 1, a, i => match ops[a]? with
    | none => false
    | some o => o.after.any fun e => Region.binds .any e && (e.on == i || waitsIn ops k e.on i)
/-- Operation f, if it is there, waits for i. -/
def waitsOn (ops : Array Oper) (f i : Nat) : Bool := match ops[f]? with | none => true | some _ => waitsIn ops ops.size f i
/-- Whatever is listed, what it waits for is listed. -/
def Closed (ops : Array Oper) (listed : Array Bool) : Prop := ∀ a o, ops[a]? = some o → listed.getD a false = true → ∀ e ∈ o.after, Region.binds .any e = true → listed.getD e.on false = true
def closedB (ops : Array Oper) (listed : Array Bool) : Bool := (List.range ops.size).all fun a => !(listed.getD a false) || match ops[a]? with | none => true | some o => o.after.all fun e => !Region.binds .any e || listed.getD e.on false
theorem closedB_spec {listed : Array Bool} (h : closedB ops listed = true) : Closed ops listed := by
  intro a o ho hl e he hb
  have ha : a < ops.size := (Array.getElem?_eq_some_iff.1 ho).1
  have h1 := List.all_eq_true.1 h a (List.mem_range.2 ha)
  rw [ho, hl] at h1
  simp only [Bool.not_true, Bool.false_or] at h1
  have h2 := Array.all_eq_true'.1 h1 e he
  rw [hb] at h2
  simpa using h2
theorem Closed.set {listed : Array Bool} (h : Closed ops listed) {j : Nat} (hj : j ∈ Region.ready .any ops listed) : Closed ops (listed.setIfInBounds j true) := by
  obtain ⟨hjun, oj, hoj, hall⟩ := mem_ready.1 hj
  intro a o ho hl e he hb
  by_cases haj : j = a
  · subst haj
    rw [hoj] at ho
    injection ho with ho
    subst ho
    exact getD_set_true (hall e he hb)
  · rw [getD_set_ne false haj] at hl
    exact getD_set_true (h a o ho hl e he hb)
theorem waitsIn_listed {listed : Array Bool} (h : Closed ops listed) {i : Nat} : ∀ (k a : Nat), waitsIn ops k a i = true → listed.getD a false = true → listed.getD i false = true := by
  intro k
  induction k with
  | zero => intro a hw; cases hw
  | succ k ih =>
    intro a hw hl
    rw [waitsIn] at hw
    split at hw
    · cases hw
    rename_i o ho
    simp only [Array.any_eq_true'] at hw
    obtain ⟨e, he, hb⟩ := hw
    simp only [Bool.and_eq_true, Bool.or_eq_true, beq_iff_eq] at hb
    have h1 := h a o ho hl e he hb.1
    rcases hb.2 with h2 | h2
    · rw [← h2]; exact h1
    · exact ih _ h2 h1
theorem waitsOn_listed {listed : Array Bool} (h : Closed ops listed) {f i : Nat} (hw : waitsOn ops f i = true) (hf : f ∈ Region.ready .any ops listed) : listed.getD i false = true := by
  obtain ⟨hfun, of, hof, hall⟩ := mem_ready.1 hf
  unfold waitsOn at hw
  rw [hof] at hw
  simp only at hw
  have hs : 0 < ops.size := by have := (Array.getElem?_eq_some_iff.1 hof).1; omega
  obtain ⟨k, hk⟩ : ∃ k, ops.size = k + 1 := ⟨ops.size - 1, by omega⟩
  rw [hk, waitsIn, hof] at hw
  simp only [Array.any_eq_true'] at hw
  obtain ⟨e, he, hb⟩ := hw
  simp only [Bool.and_eq_true, Bool.or_eq_true, beq_iff_eq] at hb
  have h1 := hall e he hb.1
  rcases hb.2 with h2 | h2
  · rw [← h2]; exact h1
  · exact waitsIn_listed h k _ h2 h1

theorem F_first {f i : Nat} {oi : Oper} {v : Value} (hi : ops[i]? = some oi) (hsel : Region.noSelect ops = true) (hdef : noDefer ops = true) (hQ : ∀ c a w, ¬ Q (.panic c) a w) (hw : waitsOn ops f i = true) :
    ∀ (fuel : Nat) (listed : Array Bool) (a : Act) (w : World), Closed ops listed →
      (∀ j oj, ops[j]? = some oj → j ≠ i → listed.getD j true = false → (∀ e ∈ oj.after, Region.binds .any e = true → e.on ≠ i) → oi.apart ops oj = true) →
      i ∈ Region.ready .any ops listed → Gives P ops S oi v a → S w →
      anyF P ro n ops Q S f fuel (listed.setIfInBounds i true) (a.put oi.dst v) w → anyF P ro n ops Q S f (fuel + 1) listed a w := by
  intro fuel
  induction fuel with
  | zero =>
    intro listed a w hcl _ hr hy hS H
    refine ⟨fun h => (by rw [h] at hr; cases hr), fun j hj => ?_⟩
    by_cases hji : j = i
    · subst hji; exact hy.wpOp hi (noDefer_spec hdef j oi hi) hS ⟨fun _ => hS, H⟩
    · have := ready_mono hj hji
      rw [H.1] at this
      cases this
  | succ fuel ih =>
    intro listed a w hcl hfree hr hy hS H
    refine ⟨fun h => (by rw [h] at hr; cases hr), fun j hj => ?_⟩
    by_cases hji : j = i
    · subst hji; exact hy.wpOp hi (noDefer_spec hdef j oi hi) hS ⟨fun _ => hS, H⟩
    · have h1 := H.2 j (ready_mono hj hji)
      obtain ⟨hjun, oj, hoj, hall⟩ := mem_ready.1 hj
      have hiun := (mem_ready.1 hr).1
      have hnot : ∀ e ∈ oj.after, Region.binds .any e = true → e.on ≠ i := fun e he hb heq => by
        have h1 := hall e he hb
        have h0 := hiun
        rw [heq] at h1
        rcases Nat.lt_or_ge i listed.size with h' | h'
        · simp [h'] at h0 h1; rw [h0] at h1; cases h1
        · simp [Array.getElem?_eq_none h'] at h1
      have hjf : j ≠ f := fun e => by
        subst e
        have h1 := waitsOn_listed hcl hw hj
        have h0 := hiun
        rcases Nat.lt_or_ge i listed.size with h' | h'
        · simp [h'] at h0 h1; rw [h0] at h1; cases h1
        · simp [Array.getElem?_eq_none h'] at h1
      have h2 := swap_op hoj (hfree j oj hoj hji hjun hnot) (fun cs b => Region.noSelect_spec hsel i oi cs b hi) (fun cs b => Region.noSelect_spec hsel j oj cs b hoj) (noDefer_spec hdef j oj hoj) hQ hy h1
      have hfree' : ∀ k ok, ops[k]? = some ok → k ≠ i → (listed.setIfInBounds j true).getD k true = false →
          (∀ e ∈ ok.after, Region.binds .any e = true → e.on ≠ i) → oi.apart ops ok = true := fun k ok hk hki hun hno => by
        refine hfree k ok hk hki ?_ hno
        by_cases hjk : j = k
        · subst hjk; exact hjun
        · rw [getD_set_ne true hjk] at hun; exact hun
      refine wpOpIn_mono (fun a' w' h3 => ⟨h3.2.1, ih (listed.setIfInBounds j true) a' w' (hcl.set hj) hfree' (ready_mono hr (Ne.symm hji)) h3.1 (h3.2.1 hjf) ?_⟩) h2
      rw [Array.setIfInBounds_comm _ _ hji]
      exact h3.2.2
end

section
variable {X : Cfg} {ops : Array Oper} {S : World → Prop} {f : Nat} {fuel : Nat} {listed : Array Bool} {ds : List Deferred} {L : Env} {M : List Res} {K nK rK : Kont} {xs : List (Nat × Kont)} {o : Oper} {d : Nat}

def JD (X : Cfg) (ops : Array Oper) (S : World → Prop) (f : Nat) (fuel : Nat) (listed : Array Bool) (ds : List Deferred) (L : Env) (M : List Res) (K : Kont) : Prop :=
  ∀ Q : Exit → Act → World → Prop, (∀ c a w, ¬ Q (.panic c) a w) → (∀ a w ds L M, Has X.N ds L a → St X.mu X.w0 M w → K ds L M → Q .normal a w) →
    ∀ a w, Has X.N ds L a → St X.mu X.w0 M w → anyF X.P X.ro X.n ops Q S f fuel listed a w

/-- What an operation yields in a frame that says L, in every world of S. -/
def RunV (X : Cfg) (o : Oper) (ds : List Deferred) (L : Env) (S : World → Prop) (v : Value) : Prop := ∀ a w, Has X.N ds L a → S w → (execOp a.eval o).run X.P w = .ok (.value v) w

theorem C.regionD (S : World → Prop) (f : Nat) {id : Nat} (hm : X.P.follows .mixedOrders = true) (h : JD X ops S f ops.size (Array.replicate ops.size false) ds L M nK) : C X (.region id ops true) ds L M nK xs rK := by
  intro a w ha hw
  refine wpIn_region_any hm (any_of_F _ _ _ _ (h _ (fun c a w h => h) (fun a w ds L M h1 h2 h3 => ⟨ds, L, M, h1, h2, h3⟩) a _ ha ?_))
  exact hw.grow0 (Below.refl _ w).drew

theorem C.regionD0 (f : Nat) {id : Nat} (hm : X.P.follows .mixedOrders = true) (h : JD X ops (fun w => St X.mu X.w0 M w) f ops.size (Array.replicate ops.size false) ds L M nK) : C X (.region id ops true) ds L M nK xs rK := C.regionD _ f hm h
/-- Number i is taken first. -/
theorem JD.take (i : Nat) {v : Value} (hi : ops[i]? = some o) (hg : o.guard = none) (hd : o.dst = some d) (hN : Nat.blt d X.N = true) (hc : (Region.noSelect ops && noDefer ops && waitsOn ops f i && closedB ops listed && Region.free .any ops listed i && (Region.ready .any ops listed).contains i) = true)
    (hS : ∀ w, St X.mu X.w0 M w → S w) (hr : RunV X o ds L S v) (h : JD X ops S f fuel (listed.setIfInBounds i true) ds ((d, v) :: L) M K) : JD X ops S f (fuel + 1) listed ds L M K := by
  simp only [Bool.and_eq_true] at hc
  obtain ⟨⟨⟨⟨⟨h1, h2⟩, h3⟩, h6⟩, h4⟩, h5⟩ := hc
  intro Q hp hQ a w ha hw
  exact F_first hi h1 h2 hp h3 fuel listed a w (closedB_spec h6) (Region.free_spec hi h4) (by simpa using h5) (by unfold Gives; rw [if_pos (by simp [Region.wanted, hg])]; exact fun w' hw' => hr a w' ha hw') (hS w hw) (h Q hp hQ _ _ (ha.putd hd hN v) hw)
/-- Number i, guarded, is taken first: it is carried out. -/
theorem JD.takeT (i : Nat) {v : Value} {j : Nat} {b : Bool} {g : Nat} (hi : ops[i]? = some o) (hg : o.guard = some (j, b)) (hd : o.dst = some d) (hN : Nat.blt d X.N = true) (hc : (Region.noSelect ops && noDefer ops && waitsOn ops f i && closedB ops listed && Region.free .any ops listed i && (Region.ready .any ops listed).contains i) = true)
    (hS : ∀ w, St X.mu X.w0 M w → S w) (hj : (ops[j]?).bind (·.dst) = some g) (hgN : Nat.blt g X.N = true) (hv : L.lookup g = some (.bool b)) (hr : RunV X o ds L S v) (h : JD X ops S f fuel (listed.setIfInBounds i true) ds ((d, v) :: L) M K) : JD X ops S f (fuel + 1) listed ds L M K := by
  simp only [Bool.and_eq_true] at hc
  obtain ⟨⟨⟨⟨⟨h1, h2⟩, h3⟩, h6⟩, h4⟩, h5⟩ := hc
  intro Q hp hQ a w ha hw
  have hy : yielded ops a.tmps j = some b := by
    unfold yielded
    rw [hj]
    simp only [Option.bind_some]
    have h1 := ha.get g _ hv
    have hlt : g < a.tmps.size := by rw [ha.size]; simpa [Nat.blt_eq] using hgN
    rw [Array.getD_eq_getD_getElem?, Array.getElem?_eq_getElem hlt] at h1
    simp only [Option.getD_some] at h1
    rw [Array.getElem?_eq_getElem hlt, h1]
  exact F_first hi h1 h2 hp h3 fuel listed a w (closedB_spec h6) (Region.free_spec hi h4) (by simpa using h5) (by unfold Gives; rw [if_pos (by simp [Region.wanted, hg, hy])]; exact fun w' hw' => hr a w' ha hw') (hS w hw) (h Q hp hQ _ _ (ha.putd hd hN v) hw)
/-- Number i, guarded, is taken first: it is passed over. -/
theorem JD.takeF (i : Nat) {j : Nat} {b : Bool} {g : Nat} {v0 : Value} (hi : ops[i]? = some o) (hg : o.guard = some (j, b)) (hd : o.dst = some d) (hN : Nat.blt d X.N = true) (hc : (Region.noSelect ops && noDefer ops && waitsOn ops f i && closedB ops listed && Region.free .any ops listed i && (Region.ready .any ops listed).contains i) = true)
    (hS : ∀ w, St X.mu X.w0 M w → S w) (hj : (ops[j]?).bind (·.dst) = some g) (hv : L.lookup g = some v0) (hb : v0 ≠ .bool b) (h : JD X ops S f fuel (listed.setIfInBounds i true) ds ((d, undef) :: L) M K) : JD X ops S f (fuel + 1) listed ds L M K := by
  simp only [Bool.and_eq_true] at hc
  obtain ⟨⟨⟨⟨⟨h1, h2⟩, h3⟩, h6⟩, h4⟩, h5⟩ := hc
  intro Q hp hQ a w ha hw
  have hy : yielded ops a.tmps j ≠ some b := by
    intro hy
    unfold yielded at hy
    rw [hj] at hy
    simp only [Option.bind_some] at hy
    have h1 := ha.get g v0 hv
    cases ht : a.tmps[g]? with
    | none => rw [ht] at hy; simp at hy
    | some u =>
      rw [Array.getD_eq_getD_getElem?, ht] at h1
      simp only [Option.getD_some] at h1
      subst h1
      rw [ht] at hy
      cases u <;> simp at hy
      exact hb (by rw [hy])
  exact F_first hi h1 h2 hp h3 fuel listed a w (closedB_spec h6) (Region.free_spec hi h4) (by simpa using h5) (by unfold Gives; rw [if_neg (by simpa [Region.wanted, hg] using hy)]) (hS w hw) (h Q hp hQ _ _ (ha.putd hd hN undef) hw)

theorem op_of_J {i : Nat} {K' : Kont} (hi : ops[i]? = some o) (h : J X ops [o] ds L M K') (Q : Exit → Act → World → Prop) (G : Act → World → Prop) (hG : ∀ a w ds L M, Has X.N ds L a → St X.mu X.w0 M w → K' ds L M → G a w) (a : Act) (w : World) (ha : Has X.N ds L a) (hw : St X.mu X.w0 M w) :
    wpOpIn (FW X.ro) X.n X.P ops Q i G a w := by
  have := h (fun e a w => match e with | .normal => G a w | e => Q e a w) hG a w ha hw
  unfold wpOpIn
  simp only [hi]
  simp only [wpListIn] at this
  by_cases hw' : Region.wanted o (yielded ops a.tmps) = true
  · simp only [hw', if_true] at this ⊢
    obtain ⟨h1, h2⟩ := this
    refine ⟨h1, ?_⟩
    generalize (o.semAt (FW X.ro).round a.eval).run X.P w = r at *
    cases r with
    | ok x w' =>
      cases x <;> first | exact h2 | exact ⟨h2.1, CallsIn.mono h2.2 fun e w'' he => (by cases e <;> exact he)⟩ | exact ⟨h2.1, RoundIn.mono h2.2 fun e w'' he => (by cases e <;> exact he)⟩
    | halt x w' => cases x <;> exact h2
  · simp only [hw', Bool.false_eq_true, if_false] at this ⊢
    exact this
theorem beq_no {i f : Nat} (h : i ≠ f) : Nat.beq i f = false := by
  cases e : Nat.beq i f
  · rfl
  · exact absurd (Nat.eq_of_beq_eq_true e) h
/-- Number i alone may come up. -/
theorem JD.step (i : Nat) (hi : ops[i]? = some o) (hr : Region.ready .any ops listed = [i])
    (h : J X ops [o] ds L M (fun ds' L' M' => (Nat.beq i f = false → ∀ w, St X.mu X.w0 M' w → S w) ∧ JD X ops S f fuel (listed.setIfInBounds i true) ds' L' M' K)) : JD X ops S f (fuel + 1) listed ds L M K := by
  intro Q hp hQ a w ha hw
  refine ⟨fun he => (by rw [hr] at he; cases he), fun j hj => ?_⟩
  rw [hr, List.mem_singleton] at hj
  subst hj
  exact op_of_J hi h Q _ (fun a w ds L M h1 h2 h3 => ⟨fun hjf => h3.1 (beq_no hjf) w h2, h3.2 Q hp hQ a w h1 h2⟩) a w ha hw
/-- Two may come up. -/
theorem JD.both (i j : Nat) {o1 o2 : Oper} (hi : ops[i]? = some o1) (hj : ops[j]? = some o2) (hr : Region.ready .any ops listed = [i, j])
    (h1 : J X ops [o1] ds L M (fun ds' L' M' => (Nat.beq i f = false → ∀ w, St X.mu X.w0 M' w → S w) ∧ JD X ops S f fuel (listed.setIfInBounds i true) ds' L' M' K))
    (h2 : J X ops [o2] ds L M (fun ds' L' M' => (Nat.beq j f = false → ∀ w, St X.mu X.w0 M' w → S w) ∧ JD X ops S f fuel (listed.setIfInBounds j true) ds' L' M' K)) : JD X ops S f (fuel + 1) listed ds L M K := by
  intro Q hp hQ a w ha hw
  refine ⟨fun he => (by rw [hr] at he; cases he), fun k hk => ?_⟩
  rw [hr] at hk
  rcases List.mem_cons.1 hk with rfl | hk
  · exact op_of_J hi h1 Q _ (fun a w ds L M h1 h2 h3 => ⟨fun hjf => h3.1 (beq_no hjf) w h2, h3.2 Q hp hQ a w h1 h2⟩) a w ha hw
  · rw [List.mem_singleton] at hk
    subst hk
    exact op_of_J hj h2 Q _ (fun a w ds L M h1 h2 h3 => ⟨fun hjf => h3.1 (beq_no hjf) w h2, h3.2 Q hp hQ a w h1 h2⟩) a w ha hw
theorem JD.done (hr : Region.ready .any ops listed = []) (h : K ds L M) : JD X ops S f fuel listed ds L M K := by
  intro Q hp hQ a w ha hw
  cases fuel with
  | zero => exact ⟨hr, hQ a w ds L M ha hw h⟩
  | succ fuel => exact ⟨fun _ => hQ a w ds L M ha hw h, by rw [hr]; simp⟩
/-- What memory tells, once for all. -/
theorem C.fact {c : Code} {p : Prop} (hp : ∀ w, St X.mu X.w0 M w → p) (h : p → C X c ds L M nK xs rK) : C X c ds L M nK xs rK := fun a w ha hw => h (hp w hw) a w ha hw
theorem J.fact {l : List Oper} {p : Prop} (hp : ∀ w, St X.mu X.w0 M w → p) (h : p → J X ops l ds L M K) : J X ops l ds L M K := fun Q hQ a w ha hw => h (hp w hw) Q hQ a w ha hw
theorem JD.fact {p : Prop} (hp : ∀ w, St X.mu X.w0 M w → p) (h : p → JD X ops S f fuel listed ds L M K) : JD X ops S f fuel listed ds L M K := fun Q hp' hQ a w ha hw => h (hp w hw) Q hp' hQ a w ha hw
theorem JD.less {L' : Env} {M' : List Res} (h : JD X ops S f fuel listed ds L' M' K) (hs : Sub L' L) (hM : ∀ w, St X.mu X.w0 M w → St X.mu X.w0 M' w) : JD X ops S f fuel listed ds L M K :=
  fun Q hp hQ a w ha hw => h Q hp hQ a w (ha.sub hs) (hM w hw)
end
end Go.Proofs.YtiminmnmeknioaaDoor
/- What operations yield: for regions that draw their order. -/
set_option linter.unusedVariables false
set_option linter.unusedSimpArgs false
namespace Go.Proofs.YtiminmnmeknioaaDoor
open Go Go.RowKit
section
variable {X : Cfg} {o : Oper} {ds : List Deferred} {L : Env} {S : World → Prop}

theorem R.move {x : Operand} {v : Value} (ho : o.op = .move x) (hx : evl L x = some v) : RunV X o ds L S (v) :=
  (fun a w ha hw => by unfold execOp; rw [ho]; simp only [ha.eval hx]; rfl)
theorem R.asg {x : Operand} {v : Value} (ho : o.op = .assign x) (hx : evl L x = some v) : RunV X o ds L S (v) :=
  (fun a w ha hw => by unfold execOp; rw [ho]; simp only [ha.eval hx]; rfl)
theorem R.pick {c x y : Operand} {b : Bool} {v : Value} (ho : o.op = .pick c x y) (hc : evl L c = some (.bool b)) (hx : evl L (if b then x else y) = some v) : RunV X o ds L S (v) :=
  (fun a w ha hw => by
    have h1 := ha.eval hx
    unfold execOp; rw [ho]; simp only [ha.eval hc]
    cases b
    · simp only [Bool.false_eq_true, if_false] at h1
      simp only [h1]; rfl
    · simp only [if_true] at h1
      simp only [h1]; rfl)
theorem R.ext {x : Operand} {vs : Array Value} {i : Nat} {v : Value} (ho : o.op = .extract x i) (hx : evl L x = some (.tuple vs)) (hv : vs.toList[i]? = some v) : RunV X o ds L S (v) :=
  (fun a w ha hw => by
    have hv' : vs[i]? = some v := by simpa using hv
    unfold execOp; rw [ho]; simp only [ha.eval hx, Instr.extract, hv']; rfl)
theorem R.bin {p : BinOp} {t t' : TypeId} {x y : Operand} {k k' : IntKind} {i j : Int} {v : Value} (ho : o.op = .binOp p t x y t') (hx : evl L x = some (.int k i)) (hy : evl L y = some (.int k' j))
    (hv : ∀ w, (binOp p t (.int k i) (.int k' j)).run X.P w = .ok v w) : RunV X o ds L S (v) :=
  (fun a w ha hw => by
    unfold execOp; rw [ho]; simp only [ha.eval hx, ha.eval hy]
    have he : ∀ w, (eqGuard p t x y (.int k i) (.int k' j)).run X.P w = .ok () w := by
      intro w; unfold eqGuard; cases p <;> rfl
    simp only [Sem.run_bind, he, Result.andThen, hv, Sem.run_pure])
theorem R.binAny {p : BinOp} {t t' : TypeId} {x y : Operand} {u1 u2 : Value} {v : Value} (ho : o.op = .binOp p t x y t') (hx : evl L x = some u1) (hy : evl L y = some u2)
    (hv : ∀ w, (do eqGuard p t x y u1 u2; binOp p t u1 u2).run X.P w = .ok v w) : RunV X o ds L S (v) :=
  (fun a w ha hw => by
    unfold execOp; rw [ho]; simp only [ha.eval hx, ha.eval hy]
    simp only [Sem.run_bind (f := fun v => pure (Next.value v)), hv, Result.andThen, Sem.run_pure])
theorem R.not {t : TypeId} {x : Operand} {b : Bool} (ho : o.op = .unOp .not t x) (hx : evl L x = some (.bool b)) : RunV X o ds L S ((.bool (!b))) :=
  (fun a w ha hw => by unfold execOp; rw [ho]; simp only [ha.eval hx]; rfl)
theorem R.un {p : UnOp} {t : TypeId} {x : Operand} {k : IntKind} {i : Int} {v : Value} (ho : o.op = .unOp p t x) (hx : evl L x = some (.int k i)) (hv : ∀ w, (Op.unary p (.int k i)).run X.P w = .ok v w) : RunV X o ds L S (v) :=
  (fun a w ha hw => by unfold execOp; rw [ho]; simp only [ha.eval hx]; simp only [Sem.run_bind, hv, Result.andThen, Sem.run_pure])
theorem R.conv {s td : TypeId} {x : Operand} {k k' : IntKind} {i j : Int} {ud : TypeDesc} (ho : o.op = .convert s td x) (hx : evl L x = some (.int k i)) (hs : ∀ w, (underlying s).run X.P w = .ok ud w) (hdd : ∀ w, (underlying td).run X.P w = .ok (.int k') w)
    (hj : k'.wrap i = j) : RunV X o ds L S ((.int k' j)) :=
  (fun a w ha hw => by
    unfold execOp; rw [ho]; simp only [ha.eval hx]; unfold convert
    simp only [Sem.run_bind, hs, hdd, Result.andThen]
    subst hj
    cases ud <;> simp only [Conv.intToInt, Sem.run_pure])
theorem R.convG {s td : TypeId} {x : Operand} {u v : Value} (ho : o.op = .convert s td x) (hx : evl L x = some u) (hr : ∀ w, S w → (convert s td u).run X.P w = .ok v w) : RunV X o ds L S (v) :=
  (fun a w ha hw => by unfold execOp; rw [ho]; simp only [ha.eval hx]; simp only [Sem.run_bind, hr w hw, Result.andThen, Sem.run_pure])
theorem R.nilck {x : Operand} {p : Addr} (ho : o.op = .nilCheck x) (hx : evl L x = some (.pointer (some p))) : RunV X o ds L S ((.pointer (some p))) :=
  (fun a w ha hw => by unfold execOp; rw [ho]; simp only [ha.eval hx]; rfl)
theorem R.mkif {t : TypeId} {x : Operand} {v : Value} {td : TypeDesc} (ho : o.op = .makeInterface t x) (hx : evl L x = some v) (hu : ∀ w, (underlying t).run X.P w = .ok td w) (hi : ∀ ms, td ≠ .interface ms) : RunV X o ds L S ((.iface t v)) :=
  (fun a w ha hw => by
    unfold execOp; rw [ho]; simp only [ha.eval hx]; unfold Instr.makeInterface
    simp only [Sem.run_bind, hu, Result.andThen]
    cases td <;> first | rfl | exact absurd rfl (hi _))
theorem R.mkfn {fn : Fn} {first captured : Array Operand} {vs1 vs2 : Array Value} (ho : o.op = .makeFunc fn first captured) (h1 : first.mapM (evl L) = some vs1) (h2 : captured.mapM (evl L) = some vs2) : RunV X o ds L S ((.func fn vs1 vs2)) := by
  have key : ∀ (a : Act) (xs : Array Operand) (vs : Array Value), Has X.N ds L a → xs.mapM (evl L) = some vs → xs.map a.eval = vs := by
    intro a xs vs ha hm
    have : ∀ (l : List Operand) (us : List Value), l.mapM (evl L) = some us → l.map a.eval = us := by
      intro l
      induction l with
      | nil => intro us h; simp at h; simp [h]
      | cons y l ih =>
        intro us h
        simp only [List.mapM_cons, Option.bind_eq_bind, Option.bind_eq_some_iff, Option.pure_def] at h
        obtain ⟨u, hu, us', hus, h3⟩ := h
        injection h3 with h3
        subst h3
        simp [ha.eval hu, ih us' hus]
    rw [← Array.toList_inj]
    rw [Array.mapM_eq_mapM_toList] at hm
    simp only [Option.map_eq_map, Option.map_eq_some_iff] at hm
    obtain ⟨us, hus, rfl⟩ := hm
    simpa using this _ _ hus
  exact (fun a w ha hw => by unfold execOp; rw [ho]; simp only [key a _ _ ha h1, key a _ _ ha h2, Instr.makeFunc, Sem.run_bind, Sem.run_pure, Result.andThen])
theorem R.fld {s : TypeId} {x : Operand} {i b off k sz : Nat} {fs : Array Field} {fd : Field} (ho : o.op = .fieldAddr s x i) (hx : evl L x = some (.pointer (some ⟨b, off, none⟩))) (hu : ∀ w, (underlying s).run X.P w = .ok (.struct fs) w) (hf : fs[i]? = some fd)
    (hk : fd.offset = k) (hz : ∀ w, (sizeOf fd.type).run X.P w = .ok (sz + 1) w) : RunV X o ds L S ((.pointer (some ⟨b, off + k, none⟩))) :=
  (fun a w ha hw => by
    unfold execOp; rw [ho]; simp only [ha.eval hx]; unfold Instr.fieldAt fieldPlace Instr.sureAddr
    subst hk
    simp only [Sem.run_bind, hu, Result.andThen, hf, hz, Sem.run_pure, Nat.add_one_ne_zero, if_false, Addr.add_mid])
theorem R.fldv {s : TypeId} {x : Operand} {i : Nat} {cs : Array Value} {v : Value} {fs : Array Field} {fd : Field} (ho : o.op = .field s x i) (hx : evl L x = some (.agg cs)) (hu : ∀ w, (underlying s).run X.P w = .ok (.struct fs) w) (hf : fs[i]? = some fd)
    (ha : ∀ w, (isAgg fd.type).run X.P w = .ok false w) (hv : cs.toList[fd.offset]? = some v) : RunV X o ds L S (v) :=
  (fun a w hA hw => by
    have hv' : cs[fd.offset]? = some v := by simpa using hv
    unfold execOp; rw [ho]; simp only [hA.eval hx]; unfold Instr.field part asAgg
    simp only [Sem.run_bind, hu, Result.andThen, hf, ha, Sem.run_pure, Bool.false_eq_true, if_false, hv'])
theorem R.fldva {s : TypeId} {x : Operand} {i sz : Nat} {cs cs' : Array Value} {fs : Array Field} {fd : Field} (ho : o.op = .field s x i) (hx : evl L x = some (.agg cs)) (hu : ∀ w, (underlying s).run X.P w = .ok (.struct fs) w) (hf : fs[i]? = some fd)
    (ha : ∀ w, (isAgg fd.type).run X.P w = .ok true w) (hz : ∀ w, (sizeOf fd.type).run X.P w = .ok sz w) (hv : cs.extract fd.offset (fd.offset + sz) = cs') : RunV X o ds L S ((.agg cs')) :=
  (fun a w hA hw => by
    unfold execOp; rw [ho]; simp only [hA.eval hx]; unfold Instr.field part asAgg
    subst hv
    simp only [Sem.run_bind, hu, Result.andThen, hf, ha, hz, Sem.run_pure, if_true])
theorem R.idx {t e : TypeId} {x y : Operand} {b off n c sz : Nat} {k : IntKind} {i : Int} (ho : o.op = .indexAddr t x y) (hx : evl L x = some (.slice (some ⟨b, off, none⟩) n c)) (hy : evl L y = some (.int k i)) (hu : ∀ w, (underlying t).run X.P w = .ok (.slice e) w)
    (hz : ∀ w, (sizeOf e).run X.P w = .ok sz w) (h0 : 0 ≤ i ∧ i < n) : RunV X o ds L S ((.pointer (some ⟨b, off + i.toNat * sz, none⟩))) :=
  (fun a w ha hw => by
    unfold execOp; rw [ho]; simp only [ha.eval hx, ha.eval hy]; unfold Instr.indexAt
    simp only [asIntOf, Sem.run_bind, hu, Result.andThen, hz, Sem.run_pure, h0, and_self, if_true, Addr.add_mid])
theorem R.idxn {t e : TypeId} {x y : Operand} {b off n c sz : Nat} {k : IntKind} {i : Nat} (ho : o.op = .indexAddr t x y) (hx : evl L x = some (.slice (some ⟨b, off, none⟩) n c)) (hy : evl L y = some (.int k (i : Int))) (hu : ∀ w, (underlying t).run X.P w = .ok (.slice e) w)
    (hz : ∀ w, (sizeOf e).run X.P w = .ok sz w) (h0 : i < n) : RunV X o ds L S ((.pointer (some ⟨b, off + i * sz, none⟩))) :=
  (fun a w ha hw => by
    unfold execOp; rw [ho]; simp only [ha.eval hx, ha.eval hy]; unfold Instr.indexAt
    have h0' : 0 ≤ (i : Int) ∧ (i : Int) < n := ⟨by omega, by omega⟩
    simp only [asIntOf, Sem.run_bind, hu, Result.andThen, hz, Sem.run_pure, h0', and_self, if_true, Addr.add_mid, Int.toNat_natCast])
theorem R.idx1 {t e : TypeId} {x y : Operand} {b off n c : Nat} {k : IntKind} {i : Nat} (ho : o.op = .indexAddr t x y) (hx : evl L x = some (.slice (some ⟨b, off, none⟩) n c)) (hy : evl L y = some (.int k (i : Int))) (hu : ∀ w, (underlying t).run X.P w = .ok (.slice e) w)
    (hz : ∀ w, (sizeOf e).run X.P w = .ok 1 w) (h0 : i < n) : RunV X o ds L S ((.pointer (some ⟨b, off + i, none⟩))) :=
  (fun a w ha hw => by
    unfold execOp; rw [ho]; simp only [ha.eval hx, ha.eval hy]; unfold Instr.indexAt
    have h0' : 0 ≤ (i : Int) ∧ (i : Int) < n := ⟨by omega, by omega⟩
    simp only [asIntOf, Sem.run_bind, hu, Result.andThen, hz, Sem.run_pure, h0', and_self, if_true, Addr.add_mid, Int.toNat_natCast, Nat.mul_one])
theorem R.idxa {t e : TypeId} {x y : Operand} {b off n sz : Nat} {k : IntKind} {i : Int} (ho : o.op = .indexAddr t x y) (hx : evl L x = some (.pointer (some ⟨b, off, none⟩))) (hy : evl L y = some (.int k i)) (hu : ∀ w, (underlying t).run X.P w = .ok (.array n e) w)
    (hz : ∀ w, (sizeOf e).run X.P w = .ok sz w) (h0 : 0 ≤ i ∧ i < n) : RunV X o ds L S ((.pointer (some ⟨b, off + i.toNat * sz, none⟩))) :=
  (fun a w ha hw => by
    unfold execOp; rw [ho]; simp only [ha.eval hx, ha.eval hy]; unfold Instr.indexAt
    simp only [asIntOf, Sem.run_bind, hu, Result.andThen, hz, Sem.run_pure, Instr.sureAddr, h0, and_self, if_true, Addr.add_mid])
theorem R.ld {t : TypeId} {x : Operand} {p : Addr} {v : Value} (ho : o.op = .load t x) (hx : evl L x = some (.pointer (some p))) (hA : ∀ w, (isAgg t).run X.P w = .ok false w) (hc : ∀ w, S w → w.cell? p = some v) : RunV X o ds L S (v) :=
  (fun a w ha hw => by
    unfold execOp; rw [ho]; simp only [ha.eval hx]; unfold Instr.loadAt loadVar Instr.sureAddr
    simp only [Sem.run_bind, hA, Result.andThen, Sem.run_pure, Bool.false_eq_true, if_false, load, Sem.run, hc w hw])
theorem R.ldn {t : TypeId} {x : Operand} {p : Addr} {cs : List Value} (ho : o.op = .load t x) (hx : evl L x = some (.pointer (some p))) (hA : ∀ w, (isAgg t).run X.P w = .ok true w) (hz : ∀ w, (sizeOf t).run X.P w = .ok cs.length w)
    (hc : ∀ w, S w → ∀ j u, cs[j]? = some u → w.cell? (p.add j) = some u) : RunV X o ds L S ((.agg cs.toArray)) :=
  (fun a w ha hw => by
    unfold execOp; rw [ho]; simp only [ha.eval hx]; unfold Instr.loadAt loadVar Instr.sureAddr
    have := run_loadCells_list (P := X.P) w p cs (hc w hw)
    simp only [Sem.run_bind, hA, hz, Result.andThen, Sem.run_pure, if_true, this])
theorem R.bld {t : TypeId} {parts : Array (Nat × Operand)} {vs : List (Nat × Value)} {z : Value} {fs : Array Field} {cells : Array Value} {pl : Array (Nat × Nat)} (ho : o.op = .build t parts) (hvs : evls L parts.toList = some vs) (hz : ∀ w, (zeroValue t).run X.P w = .ok z w) (hu : ∀ w, (underlying t).run X.P w = .ok (.struct fs) w)
    (hp : ∀ w, (fs.mapM fun f => do pure (f.offset, ← sizeOf f.type) : Sem (Array (Nat × Nat))).run X.P w = .ok pl w) (hf : Instr.fill (pl[·]?) z.cells vs = some cells) : RunV X o ds L S ((.agg cells)) :=
  (fun a w ha hw => by
    have h1 : (parts.map fun (i, x) => (i, a.eval x)).toList = vs := by rw [Array.toList_map]; exact ha.evls _ _ hvs
    unfold execOp; rw [ho]; simp only; unfold Instr.build
    simp only [Sem.run_bind, hz, Result.andThen, hu, hp, h1, hf, Sem.run_pure])
theorem R.len {t : TypeId} {x : Operand} {A : Option Addr} {n c : Nat} {e : TypeId} (ho : o.op = .call { callee := .builtin .len, args := #[x], argTypes := #[t] }) (hx : evl L x = some (.slice A n c)) (hu : ∀ w, (underlying t).run X.P w = .ok (.slice e) w) : RunV X o ds L S ((.int .i64 n)) :=
  (fun a w ha hw => by
    unfold execOp; rw [ho]; simp only [resolve, invoke, builtin, List.map_toArray, List.map_cons, List.map_nil, ha.eval hx, Sem.run_bind, Sem.run_pure, Result.andThen]
    unfold Builtin.len_
    simp only [List.getElem?_toArray, List.getElem?_cons_zero, Sem.run_bind, hu, Result.andThen, Sem.run_pure, goInt])
theorem R.lens {t : TypeId} {x : Operand} {s : ByteArray} (ho : o.op = .call { callee := .builtin .len, args := #[x], argTypes := #[t] }) (hx : evl L x = some (.string s)) (hu : ∀ w, (underlying t).run X.P w = .ok .string w) : RunV X o ds L S ((.int .i64 s.size)) :=
  (fun a w ha hw => by
    unfold execOp; rw [ho]; simp only [resolve, invoke, builtin, List.map_toArray, List.map_cons, List.map_nil, ha.eval hx, Sem.run_bind, Sem.run_pure, Result.andThen]
    unfold Builtin.len_
    simp only [List.getElem?_toArray, List.getElem?_cons_zero, Sem.run_bind, hu, Result.andThen, Sem.run_pure, goInt])
theorem R.slc {t : TypeId} {x : Operand} {lo hi mx : Option Operand} {u v : Value} {l1 h1 m1 : Option Value} (ho : o.op = .slice t x lo hi mx) (hx : evl L x = some u) (hl : lo.map (evl L) = l1.map some) (hh : hi.map (evl L) = h1.map some) (hm : mx.map (evl L) = m1.map some)
    (hr : ∀ w, (Instr.sliceAt t u l1 h1 m1).run X.P w = .ok v w) : RunV X o ds L S (v) := by
  have key : ∀ (a : Act) (y : Option Operand) (z : Option Value), Has X.N ds L a → y.map (evl L) = z.map some → y.map a.eval = z := by
    intro a y z ha hy
    cases y with
    | none => cases z <;> simp at hy ⊢
    | some y =>
      cases z with
      | none => simp at hy
      | some z => simp only [Option.map_some, Option.some.injEq] at hy ⊢; exact ha.eval hy
  exact (fun a w ha hw => by
    unfold execOp; rw [ho]; simp only [ha.eval hx, key a _ _ ha hl, key a _ _ ha hh, key a _ _ ha hm, Sem.run_bind, hr, Result.andThen, Sem.run_pure])
end
end Go.Proofs.YtiminmnmeknioaaDoor
/- Whole numbers of 8, 32 and 64 bits, as Lean has them, under Go's operators. -/
set_option linter.unusedVariables false
namespace Go.Proofs.YtiminmnmeknioaaDoor
open Go Go.RowKit

abbrev vu8 (x : UInt8) : Value := .int .u8 (x.toNat : Int)
abbrev vu32 (x : UInt32) : Value := .int .u32 (x.toNat : Int)
abbrev vu64 (x : UInt64) : Value := .int .u64 (x.toNat : Int)

section
variable {P : Program} {w : World} {t : TypeId}
theorem bv8 (a : UInt8) : BitVec.ofInt 8 (a.toNat : Int) = a.toBitVec := by
  apply BitVec.eq_of_toNat_eq
  simp
theorem bv32 (a : UInt32) : BitVec.ofInt 32 (a.toNat : Int) = a.toBitVec := by
  apply BitVec.eq_of_toNat_eq
  simp
theorem bv64 (a : UInt64) : BitVec.ofInt 64 (a.toNat : Int) = a.toBitVec := by
  apply BitVec.eq_of_toNat_eq
  simp
theorem w8 (a : UInt8) : IntKind.u8.wrap (a.toNat : Int) = a.toNat := IntWalk.u8_in _ (by have := a.toNat_lt; omega)
theorem w32 (a : UInt32) : IntKind.u32.wrap (a.toNat : Int) = a.toNat := IntWalk.u32_in _ (by have := a.toNat_lt; omega)
theorem w64 (a : UInt64) : IntKind.u64.wrap (a.toNat : Int) = a.toNat := IntWalk.u64_in _ (by have := a.toNat_lt; omega)

theorem u32_and (a b : UInt32) : (binOp .and t (vu32 a) (vu32 b)).run P w = .ok (vu32 (a &&& b)) w := by
  show Result.ok (Value.int .u32 (IntKind.u32.wrap ((BitVec.ofInt 32 (a.toNat : Int) &&& BitVec.ofInt 32 (b.toNat : Int)).toNat : Int))) w = _
  rw [bv32, bv32, ← UInt32.toBitVec_and, UInt32.toNat_toBitVec, w32]
theorem u32_xor (a b : UInt32) : (binOp .xor t (vu32 a) (vu32 b)).run P w = .ok (vu32 (a ^^^ b)) w := by
  show Result.ok (Value.int .u32 (IntKind.u32.wrap ((BitVec.ofInt 32 (a.toNat : Int) ^^^ BitVec.ofInt 32 (b.toNat : Int)).toNat : Int))) w = _
  rw [bv32, bv32, ← UInt32.toBitVec_xor, UInt32.toNat_toBitVec, w32]
theorem u32_not (a : UInt32) : (Op.unary .xor (vu32 a)).run P w = .ok (vu32 (~~~ a)) w := by
  show Result.ok (Value.int .u32 (IntKind.u32.wrap ((BitVec.ofInt 32 IntKind.u32.max ^^^ BitVec.ofInt 32 (a.toNat : Int)).toNat : Int))) w = _
  rw [bv32]
  have : (BitVec.ofInt 32 IntKind.u32.max ^^^ a.toBitVec) = (~~~ a).toBitVec := by
    rw [UInt32.toBitVec_not, show BitVec.ofInt 32 IntKind.u32.max = BitVec.allOnes 32 by rfl, BitVec.allOnes_xor]
  rw [this, UInt32.toNat_toBitVec, w32]
theorem u32_neg (a : UInt32) : (Op.unary .neg (vu32 a)).run P w = .ok (vu32 (- a)) w := by
  show Result.ok (Value.int .u32 (IntKind.u32.wrap (0 - (a.toNat : Int)))) w = _
  rw [IntKind.wrap_u32]
  have h := a.toNat_lt
  have e : (- a).toNat = (4294967296 - a.toNat) % 4294967296 := by
    rw [UInt32.toNat_neg]
  congr 2
  rw [e]
  omega
theorem u32_shr {kk : IntKind} (a : UInt32) (k : Nat) (hk : k < 32) : (binOp .shr t (vu32 a) (.int kk (k : Int))).run P w = .ok (vu32 (a >>> (UInt32.ofNat k))) w := by
  have h0 : ¬ ((k : Int) < 0) := by omega
  show Sem.run P (Op.shift .shr .u32 (a.toNat : Int) kk (k : Int)) w = _
  unfold Op.shift
  rw [if_neg h0]
  show Result.ok (Value.int .u32 ((a.toNat : Int).fdiv (2 ^ min (k : Int).toNat 32))) w = _
  have e1 : min (k : Int).toNat 32 = k := by omega
  rw [e1]
  have e2 : (a >>> UInt32.ofNat k).toNat = a.toNat / 2 ^ k := by
    rw [UInt32.toNat_shiftRight, UInt32.toNat_ofNat', Nat.shiftRight_eq_div_pow]
    congr 2
    rw [Nat.mod_eq_of_lt (show k < 2 ^ 32 by omega)]
    exact Nat.mod_eq_of_lt hk
  rw [Int.fdiv_eq_ediv_of_nonneg _ (by exact_mod_cast Nat.zero_le _)]
  show _ = Result.ok (Value.int .u32 ((a >>> UInt32.ofNat k).toNat : Int)) w
  rw [e2]
  simp
theorem u8_and (a b : UInt8) : (binOp .and t (vu8 a) (vu8 b)).run P w = .ok (vu8 (a &&& b)) w := by
  show Result.ok (Value.int .u8 (IntKind.u8.wrap ((BitVec.ofInt 8 (a.toNat : Int) &&& BitVec.ofInt 8 (b.toNat : Int)).toNat : Int))) w = _
  rw [bv8, bv8, ← UInt8.toBitVec_and, UInt8.toNat_toBitVec, w8]
theorem u8_xor (a b : UInt8) : (binOp .xor t (vu8 a) (vu8 b)).run P w = .ok (vu8 (a ^^^ b)) w := by
  show Result.ok (Value.int .u8 (IntKind.u8.wrap ((BitVec.ofInt 8 (a.toNat : Int) ^^^ BitVec.ofInt 8 (b.toNat : Int)).toNat : Int))) w = _
  rw [bv8, bv8, ← UInt8.toBitVec_xor, UInt8.toNat_toBitVec, w8]
theorem u8_or (a b : UInt8) : (binOp .or t (vu8 a) (vu8 b)).run P w = .ok (vu8 (a ||| b)) w := by
  show Result.ok (Value.int .u8 (IntKind.u8.wrap ((BitVec.ofInt 8 (a.toNat : Int) ||| BitVec.ofInt 8 (b.toNat : Int)).toNat : Int))) w = _
  rw [bv8, bv8, ← UInt8.toBitVec_or, UInt8.toNat_toBitVec, w8]
end

theorem cv_u32_u8 (a : UInt32) : IntKind.u8.wrap (a.toNat : Int) = (a.toUInt8.toNat : Int) := by
  rw [IntKind.wrap_u8, UInt32.toNat_toUInt8]; omega
theorem cv_u64_u8 (a : UInt64) : IntKind.u8.wrap (a.toNat : Int) = (a.toUInt8.toNat : Int) := by
  rw [IntKind.wrap_u8, UInt64.toNat_toUInt8]; omega

theorem cw_u8_i64 (a : UInt8) : IntKind.i64.wrap (a.toNat : Int) = (a.toNat : Int) := IntWalk.i64_in _ (by have := a.toNat_lt; omega)
theorem cw_u32_i64 (a : UInt32) : IntKind.i64.wrap (a.toNat : Int) = (a.toNat : Int) := IntWalk.i64_in _ (by have := a.toNat_lt; omega)
theorem cw_u8_u32 (a : UInt8) : IntKind.u32.wrap (a.toNat : Int) = (a.toUInt32.toNat : Int) := by
  rw [IntWalk.u32_in _ (by have := a.toNat_lt; omega)]; rfl
theorem cw_u8_u64 (a : UInt8) : IntKind.u64.wrap (a.toNat : Int) = (a.toUInt64.toNat : Int) := by
  rw [IntWalk.u64_in _ (by have := a.toNat_lt; omega)]; rfl

/-! ### Naturals under Go's operators -/
theorem cv_nat_u8 (n : Nat) : IntKind.u8.wrap (n : Int) = ((UInt8.ofNat n).toNat : Int) := by
  rw [IntKind.wrap_u8, UInt8.toNat_ofNat']; omega
section
variable {P : Program} {w : World} {t : TypeId}
theorem bitsOf (n a : Nat) (h : a < 2 ^ n) : (BitVec.ofInt n (a : Int)).toNat = a := by
  simp
  exact Nat.mod_eq_of_lt h
theorem shr_nat {k kk : IntKind} (a j : Nat) (hj : j ≤ k.bits) : (binOp .shr t (.int k (a : Int)) (.int kk (j : Int))).run P w = .ok (.int k ((a / 2 ^ j : Nat) : Int)) w := by
  have h0 : ¬ ((j : Int) < 0) := by omega
  show Sem.run P (Op.shift .shr k (a : Int) kk (j : Int)) w = _
  unfold Op.shift
  rw [if_neg h0]
  show Result.ok (Value.int k ((a : Int).fdiv (2 ^ min (j : Int).toNat k.bits))) w = _
  rw [show min (j : Int).toNat k.bits = j by omega, Int.fdiv_eq_ediv_of_nonneg _ (by exact_mod_cast Nat.zero_le _)]
  simp
theorem and_u64 (a b : Nat) (ha : a < 2 ^ 64) (hb : b < 2 ^ 64) : (binOp .and t (.int .u64 (a : Int)) (.int .u64 (b : Int))).run P w = .ok (.int .u64 ((a &&& b : Nat) : Int)) w := by
  show Result.ok (Value.int .u64 (IntKind.u64.wrap ((BitVec.ofInt 64 (a : Int) &&& BitVec.ofInt 64 (b : Int)).toNat : Int))) w = _
  rw [BitVec.toNat_and, bitsOf 64 a ha, bitsOf 64 b hb, IntWalk.u64_in _ (by have := Nat.and_le_left (n := a) (m := b); omega)]
theorem or_u64 (a b : Nat) (ha : a < 2 ^ 64) (hb : b < 2 ^ 64) : (binOp .or t (.int .u64 (a : Int)) (.int .u64 (b : Int))).run P w = .ok (.int .u64 ((a ||| b : Nat) : Int)) w := by
  show Result.ok (Value.int .u64 (IntKind.u64.wrap ((BitVec.ofInt 64 (a : Int) ||| BitVec.ofInt 64 (b : Int)).toNat : Int))) w = _
  rw [BitVec.toNat_or, bitsOf 64 a ha, bitsOf 64 b hb, IntWalk.u64_in _ (by have := Nat.or_lt_two_pow ha hb; omega)]
theorem or_u8 (a b : Nat) (ha : a < 2 ^ 8) (hb : b < 2 ^ 8) : (binOp .or t (.int .u8 (a : Int)) (.int .u8 (b : Int))).run P w = .ok (.int .u8 ((a ||| b : Nat) : Int)) w := by
  show Result.ok (Value.int .u8 (IntKind.u8.wrap ((BitVec.ofInt 8 (a : Int) ||| BitVec.ofInt 8 (b : Int)).toNat : Int))) w = _
  rw [BitVec.toNat_or, bitsOf 8 a ha, bitsOf 8 b hb, IntWalk.u8_in _ (by have := Nat.or_lt_two_pow ha hb; omega)]
theorem and_i64 (a b : Nat) (ha : a < 2 ^ 63) (hb : b < 2 ^ 63) : (binOp .and t (.int .i64 (a : Int)) (.int .i64 (b : Int))).run P w = .ok (.int .i64 ((a &&& b : Nat) : Int)) w := by
  show Result.ok (Value.int .i64 (IntKind.i64.wrap ((BitVec.ofInt 64 (a : Int) &&& BitVec.ofInt 64 (b : Int)).toNat : Int))) w = _
  rw [BitVec.toNat_and, bitsOf 64 a (by omega), bitsOf 64 b (by omega), IntWalk.i64_in _ (by have := Nat.and_le_left (n := a) (m := b); omega)]
theorem or_i64 (a b : Nat) (ha : a < 2 ^ 63) (hb : b < 2 ^ 63) : (binOp .or t (.int .i64 (a : Int)) (.int .i64 (b : Int))).run P w = .ok (.int .i64 ((a ||| b : Nat) : Int)) w := by
  show Result.ok (Value.int .i64 (IntKind.i64.wrap ((BitVec.ofInt 64 (a : Int) ||| BitVec.ofInt 64 (b : Int)).toNat : Int))) w = _
  rw [BitVec.toNat_or, bitsOf 64 a (by omega), bitsOf 64 b (by omega), IntWalk.i64_in _ (by have := Nat.or_lt_two_pow ha hb; omega)]
theorem shl_nat_i64 {kk : IntKind} (a j : Nat) (hj : j ≤ 64) (h : a * 2 ^ j ≤ 9223372036854775807) : (binOp .shl t (.int .i64 (a : Int)) (.int kk (j : Int))).run P w = .ok (.int .i64 ((a * 2 ^ j : Nat) : Int)) w := by
  have h0 : ¬ ((j : Int) < 0) := by omega
  show Sem.run P (Op.shift .shl .i64 (a : Int) kk (j : Int)) w = _
  unfold Op.shift
  rw [if_neg h0]
  show Result.ok (Value.int .i64 (IntKind.i64.wrap ((a : Int) * 2 ^ min (j : Int).toNat 64))) w = _
  rw [show min (j : Int).toNat 64 = j by omega]
  rw [show (a : Int) * 2 ^ j = ((a * 2 ^ j : Nat) : Int) by push_cast; rfl, IntWalk.i64_in _ (by omega)]
end
theorem and127 (m : Nat) : m &&& 127 = m % 128 := Nat.and_two_pow_sub_one_eq_mod m 7
theorem or128 (m : Nat) (h : m < 128) : m ||| 128 = m + 128 := by
  have := Nat.two_pow_add_eq_or_of_lt (i := 7) (b := m) (by omega) 1
  rw [Nat.or_comm]
  simp at this
  omega

theorem or128_fin : ∀ x : Fin 256, x.val ||| 128 = x.val % 128 + 128 := by decide +kernel
theorem or128_8 (k : Nat) : UInt8.ofNat k ||| 128 = UInt8.ofNat (k % 128 + 128) := by
  apply UInt8.toNat_inj.1
  rw [UInt8.toNat_or, UInt8.toNat_ofNat', UInt8.toNat_ofNat']
  have := or128_fin ⟨k % 256, by omega⟩
  simp only at this
  show (k % 256) ||| 128 = _
  rw [this]
  show _ = (k % 128 + 128) % 256
  omega

/-! ### The sum -/
def crcBit (c : UInt32) : UInt32 := c >>> 1 ^^^ (0xedb88320 &&& - (c &&& 1))
def crc4 (c : UInt32) : UInt32 := crcBit (crcBit (crcBit (crcBit c)))
def crcByte (c : UInt32) (b : UInt8) : UInt32 := crc4 (crc4 (c ^^^ b.toUInt32))
def crcExt (c : UInt32) (bs : List UInt8) : UInt32 := ~~~ (bs.foldl crcByte (~~~ c))
def crcSum (bs : List UInt8) : UInt32 := crcExt 0 bs
def le4 (c : UInt32) : List UInt8 := [c.toUInt8, (c >>> 8).toUInt8, (c >>> 16).toUInt8, (c >>> 24).toUInt8]

theorem neg_bit (c : UInt32) : - (c &&& 1) = if c &&& 1 = 1 then 0xffffffff else 0 := by
  have h : c &&& 1 = 0 ∨ c &&& 1 = 1 := by
    have e : (c &&& 1).toNat = c.toNat % 2 := by rw [UInt32.toNat_and]; exact Nat.and_one_is_mod _
    rcases Nat.mod_two_eq_zero_or_one c.toNat with h | h
    · left; apply UInt32.toNat_inj.1; rw [e, h]; rfl
    · right; apply UInt32.toNat_inj.1; rw [e, h]; rfl
  rcases h with h | h <;> rw [h] <;> decide
theorem crcBit_if (c : UInt32) : crcBit c = if c &&& 1 = 1 then c >>> 1 ^^^ 0xedb88320 else c >>> 1 := by
  unfold crcBit
  rw [neg_bit]
  split
  · rfl
  · simp
theorem and_one_two (c : UInt32) : c &&& 1 = 0 ∨ c &&& 1 = 1 := by
  have e : (c &&& 1).toNat = c.toNat % 2 := by rw [UInt32.toNat_and]; exact Nat.and_one_is_mod _
  rcases Nat.mod_two_eq_zero_or_one c.toNat with h | h
  · left; apply UInt32.toNat_inj.1; rw [e, h]; rfl
  · right; apply UInt32.toNat_inj.1; rw [e, h]; rfl
theorem xor_and_one (a b : UInt32) : (a ^^^ b) &&& 1 = (a &&& 1) ^^^ (b &&& 1) := by
  apply UInt32.toBitVec_inj.1
  simp only [UInt32.toBitVec_and, UInt32.toBitVec_xor]
  ext i hi
  simp only [BitVec.getElem_and, BitVec.getElem_xor]
  cases a.toBitVec[i] <;> cases b.toBitVec[i] <;> simp
theorem xor_shr (a b k : UInt32) : (a ^^^ b) >>> k = a >>> k ^^^ b >>> k := by
  apply UInt32.toNat_inj.1
  simp only [UInt32.toNat_shiftRight, UInt32.toNat_xor, Nat.shiftRight_xor_distrib]
theorem crcBit_xor (a b : UInt32) : crcBit (a ^^^ b) = crcBit a ^^^ crcBit b := by
  unfold crcBit
  rw [xor_and_one, xor_shr]
  have key : ∀ x y : UInt32, (0xedb88320 &&& - (a &&& 1 ^^^ (b &&& 1))) = (0xedb88320 &&& - (a &&& 1)) ^^^ (0xedb88320 &&& - (b &&& 1)) := by
    intro x y
    rcases and_one_two a with ha | ha <;> rcases and_one_two b with hb | hb <;> rw [ha, hb] <;> decide
  rw [key 0 0]
  ac_rfl
theorem crcBit_even (a : UInt32) (k : Nat) (h : a.toNat = 2 * k) : (crcBit a).toNat = k := by
  have h1 : a &&& 1 = 0 := by
    apply UInt32.toNat_inj.1
    rw [UInt32.toNat_and, h]
    show (2 * k) &&& 1 = 0
    rw [Nat.and_one_is_mod]; omega
  unfold crcBit
  rw [h1, show (0xedb88320 &&& - (0 : UInt32)) = 0 by decide, UInt32.xor_zero, UInt32.toNat_shiftRight, Nat.shiftRight_eq_div_pow, h]
  show 2 * k / 2 = k
  omega
theorem crc4_shift (c : UInt32) : crc4 c = c >>> 4 ^^^ crc4 (c &&& 15) := by
  have hc : c = (c ^^^ (c &&& 15)) ^^^ (c &&& 15) := by rw [UInt32.xor_assoc, UInt32.xor_self, UInt32.xor_zero]
  have hx : crc4 ((c ^^^ (c &&& 15)) ^^^ (c &&& 15)) = crc4 (c ^^^ (c &&& 15)) ^^^ crc4 (c &&& 15) := by
    unfold crc4
    simp only [crcBit_xor]
  rw [← hc] at hx
  rw [hx]
  congr 1
  have e15 : (c &&& 15).toNat = c.toNat % 16 := by
    rw [UInt32.toNat_and]; exact Nat.and_two_pow_sub_one_eq_mod c.toNat 4
  have e0 : (c ^^^ (c &&& 15)).toNat = 16 * (c.toNat / 16) := by
    rw [UInt32.toNat_xor, e15]
    have h1 : (c.toNat ^^^ (c.toNat % 16)) % 2 ^ 4 = 0 := by
      rw [Nat.xor_mod_two_pow]
      simp
    have h2 : (c.toNat ^^^ (c.toNat % 16)) / 2 ^ 4 = c.toNat / 2 ^ 4 := by
      rw [Nat.xor_div_two_pow, Nat.div_eq_of_lt (show c.toNat % 16 < 2 ^ 4 by omega), Nat.xor_zero]
    omega
  apply UInt32.toNat_inj.1
  unfold crc4
  rw [crcBit_even _ (c.toNat / 16)]
  · rw [UInt32.toNat_shiftRight, Nat.shiftRight_eq_div_pow]; rfl
  rw [crcBit_even _ (2 * (c.toNat / 16))]
  rw [crcBit_even _ (2 * (2 * (c.toNat / 16)))]
  rw [crcBit_even _ (2 * (2 * (2 * (c.toNat / 16))))]
  rw [e0]; omega
end Go.Proofs.YtiminmnmeknioaaDoor
/- Slices that are read, rows of one's own; append, make, copy. -/
set_option linter.unusedVariables false
set_option linter.unusedSimpArgs false
namespace Go.Proofs.YtiminmnmeknioaaDoor
open Go Go.RowKit

/-- What stood in w. -/
def Old (w : World) : Nat → Prop := fun b => b < w.heap.size

/-- A slice of items of sz cells each, that is read. -/
def RSl {α : Type} (sz : Nat) (R : World → α → List Value → Prop) (fp : Nat → Prop) (w : World) (v : Value) (xs : List α) : Prop :=
  ∃ A n c, v = .slice A n c ∧ xs.length = n ∧ n ≤ c ∧ c ≤ 9223372036854775807 ∧ (0 < n → ∃ b o, A = some ⟨b, o, none⟩ ∧ fp b ∧ ∀ j x, xs[j]? = some x → ∃ cs, cs.length = sz ∧ R w x cs ∧ ∀ i u, cs[i]? = some u → w.cell? ⟨b, o + j * sz + i, none⟩ = some u)

section
variable {α : Type} {sz : Nat} {R R' : World → α → List Value → Prop} {fp fp' : Nat → Prop} {w w' : World} {v : Value} {xs : List α}
theorem RSl.imp (h : RSl sz R fp w v xs) (hf : ∀ b, fp b → fp' b) (hc : ∀ b, fp b → w'.heap[b]? = w.heap[b]?) (hR : ∀ x cs, R w x cs → R' w' x cs) : RSl sz R' fp' w' v xs := by
  obtain ⟨A, n, c, hv, hl, h1, h2, h3⟩ := h
  refine ⟨A, n, c, hv, hl, h1, h2, fun hn => ?_⟩
  obtain ⟨b, o, hA, hb, hcell⟩ := h3 hn
  refine ⟨b, o, hA, hf b hb, fun j x hx => ?_⟩
  obtain ⟨cs, hs, hr, hcs⟩ := hcell j x hx
  exact ⟨cs, hs, hR x cs hr, fun i u hu => by rw [World.cell?_of_block (w := w) (hc b hb)]; exact hcs i u hu⟩
theorem RSl.nil (c : Nat) (hc : c ≤ 9223372036854775807) (A : Option Addr) : RSl sz R fp w (.slice A 0 c) ([] : List α) := ⟨A, 0, c, rfl, rfl, Nat.zero_le _, hc, fun h => absurd h (by omega)⟩
end

/-! ### Octets -/
def isU8 (_ : World) (x : UInt8) (cs : List Value) : Prop := cs = [vu8 x]
def RB (fp : Nat → Prop) (w : World) (v : Value) (xs : List UInt8) : Prop := RSl 1 isU8 fp w v xs
abbrev BA (w : World) (v : Value) (xs : List UInt8) : Prop := RB (Old w) w v xs

section
variable {mu fp fp' : Nat → Prop} {w w' w0 : World} {v : Value} {xs : List UInt8} {M : List Res}
theorem RB.imp (h : RB fp w v xs) (hf : ∀ b, fp b → fp' b) (hc : ∀ b, fp b → w'.heap[b]? = w.heap[b]?) : RB fp' w' v xs := RSl.imp h hf hc fun _ _ h => h
theorem RB.later (h : BA w v xs) (hb : Below w.heap.size w w') : BA w' v xs := RB.imp h (fun b hb' => Nat.lt_of_lt_of_le hb' hb.size) (fun b hb' => hb.block b hb')
theorem RB.nil : RB fp w (.slice none 0 0) [] := RSl.nil 0 (by omega) none
/-- The form of a slice of octets. -/
theorem RB.form (h : RB fp w v xs) : ∃ A c, v = .slice A xs.length c ∧ xs.length ≤ c ∧ c ≤ 9223372036854775807 ∧ (0 < xs.length → ∃ b o, A = some ⟨b, o, none⟩ ∧ fp b ∧ ∀ j x, xs[j]? = some x → w.cell? ⟨b, o + j, none⟩ = some (vu8 x)) := by
  obtain ⟨A, n, c, rfl, rfl, h1, h2, h3⟩ := h
  refine ⟨A, c, rfl, h1, h2, fun hn => ?_⟩
  obtain ⟨b, o, hA, hb, hc⟩ := h3 hn
  refine ⟨b, o, hA, hb, fun j x hx => ?_⟩
  obtain ⟨cs, _, rfl, hcs⟩ := hc j x hx
  have := hcs 0 _ rfl
  simpa using this
theorem RB.mk {A : Option Addr} {n c : Nat} (hl : xs.length = n) (h1 : n ≤ c) (h2 : c ≤ 9223372036854775807) (h3 : 0 < n → ∃ b o, A = some ⟨b, o, none⟩ ∧ fp b ∧ ∀ j x, xs[j]? = some x → w.cell? ⟨b, o + j, none⟩ = some (vu8 x)) : RB fp w (.slice A n c) xs := by
  refine ⟨A, n, c, rfl, hl, h1, h2, fun hn => ?_⟩
  obtain ⟨b, o, hA, hb, hc⟩ := h3 hn
  exact ⟨b, o, hA, hb, fun j x hx => ⟨[vu8 x], rfl, rfl, fun i u hu => by
    cases i with
    | zero => simp only [List.getElem?_cons_zero, Option.some.injEq] at hu; subst hu; simpa using hc j x hx
    | succ i => simp at hu⟩⟩
def rbR (fp : Nat → Prop) (v : Value) (xs : List UInt8) : Res := ⟨fp, fun w => RB fp w v xs, fun w w' hc h => RB.imp h (fun _ h => h) hc⟩
theorem St.rb (h : St mu w0 M w) (k : Nat) (hk : M[k]? = some (rbR fp v xs)) : BA w v xs := RB.imp (h.get k hk) (fun b hb => (h.bd k hk hb).2) (fun _ _ => rfl)
theorem St.ba (h : St No w0 M w) (hx : BA w0 v xs) : BA w v xs := hx.later h.below

/-- xs[k:] and xs[:k]. -/
theorem RB.cut {A : Option Addr} {n c : Nat} (h : RB fp w (.slice A n c) xs) (l k : Nat) (hlk : l ≤ k) (hk : k ≤ n) : RB fp w (.slice (if c = l then A else A.map (·.add (l * 1))) (k - l) (c - l)) ((xs.take k).drop l) := by
  obtain ⟨A', c', hv, h1, h2, h3⟩ := h.form
  injection hv with e1 e2 e3
  subst e1 e2 e3
  refine RB.mk (by simp; omega) (by omega) (by omega) fun hn => ?_
  obtain ⟨b, o, rfl, hb, hc⟩ := h3 (by omega)
  refine ⟨b, o + l, ?_, hb, fun j x hx => ?_⟩
  · rw [if_neg (by omega)]
    simp [Addr.add_mid]
  · rw [List.getElem?_drop, List.getElem?_take] at hx
    split at hx
    · have := hc (l + j) x hx
      rw [show o + l + j = o + (l + j) by omega]
      exact this
    · cases hx
end

theorem RB.at_ {fp : Nat → Prop} {w : World} {b o n c j : Nat} {xs : List UInt8} {x : UInt8} (h : RB fp w (.slice (some ⟨b, o, none⟩) n c) xs) (hx : xs[j]? = some x) : w.cell? ⟨b, o + j, none⟩ = some (vu8 x) := by
  obtain ⟨A', c', hv, _, _, h3⟩ := h.form
  injection hv with e1 e2 e3
  subst e2 e3
  obtain ⟨b', o', e, _, hc⟩ := h3 (by have := (List.getElem?_eq_some_iff.1 hx).1; omega)
  rw [← e1] at e
  injection e with e
  injection e with e4 e5
  subst e4 e5
  exact hc j x hx

/-! ### Rows of one's own -/
def rowR (e : TypeId) (sz : Nat) (v : Value) (n : Nat) (xs : List Value) : Res :=
  ⟨fun b => v.ownBlock = some b, fun w => w.ownsRow 0 e sz v n xs, fun w w' hc h => by
    refine ⟨h.1, ?_⟩
    rcases h.2 with h1 | ⟨g, cap, cur, hv, hg, hh, r⟩
    · exact .inl h1
    · exact .inr ⟨g, cap, cur, hv, hg, (hc g (by rw [hv]; rfl)).trans hh, r⟩⟩
section
variable {mu : Nat → Prop} {w w0 : World} {e : TypeId} {v : Value} {n : Nat} {xs : List UInt8} {M : List Res}
theorem RB.of_row {vs : List Value} (h : w.ownsRow 0 e 1 v n vs) (hx : vs = xs.map vu8) : RB (fun b => v.ownBlock = some b) w v xs := by
  subst hx
  have hl : xs.length = n := by have := h.1; simp at this; omega
  rcases h.2 with ⟨rfl, rfl⟩ | ⟨g, cap, cur, rfl, _, hh, h1, h2, h3, h4⟩
  · obtain rfl : xs = [] := List.eq_nil_of_length_eq_zero hl
    exact RB.nil
  · refine RB.mk hl h1 (by simpa [maxLen] using h2) fun hn => ⟨g, 0, rfl, rfl, fun j x hx => ?_⟩
    have := h.cells (g := g) rfl j (vu8 x) (by simp [hx])
    rwa [Addr.add_mid] at this
theorem row_rb {vs : List Value} (h : St mu w0 (rowR e 1 v n vs :: M) w) (hx : vs = xs.map vu8) : St mu w0 (rbR (fun b => v.ownBlock = some b) v xs :: M) w :=
  h.at_ (RB.of_row (h.get 0 rfl) hx) (fun _ hb => hb)
theorem blk_rowc {sz b cap : Nat} {cs : Array Value} (h : St mu w0 (blk b cs e :: M) w) (hn : n ≤ cap) (hm : cap ≤ 9223372036854775807) (hs : cs.size = cap * sz) : St mu w0 (rowR e sz (.slice (some ⟨b, 0, none⟩) n cap) n (cs.toList.take (n * sz)) :: M) w :=
  h.at_ ⟨by rw [List.length_take, Array.length_toList, hs]; exact Nat.min_eq_left (Nat.mul_le_mul_right _ hn), .inr ⟨b, cap, cs, rfl, Nat.zero_le _, h.get 0 rfl, hn, by simpa [maxLen] using hm, hs, rfl⟩⟩ (fun b' hb => by
    have : b = b' := by simpa [rowR, Value.ownBlock] using hb
    subst this
    rfl)
theorem St.rowBA {vs : List Value} (h : St mu w0 M w) (k : Nat) (hk : M[k]? = some (rowR e 1 v n vs)) (hx : vs = xs.map vu8) : BA w v xs :=
  RB.imp (RB.of_row (h.get k hk) hx) (fun b hb => (h.bd k hk hb).2) (fun _ _ => rfl)
theorem St.nilRow (h : St mu w0 M w) (e : TypeId) (sz : Nat) : St mu w0 (rowR e sz (.slice none 0 0) 0 [] :: M) w :=
  h.grow (Below.refl _ _) (World.ownsRow_nil _ _ _ _) (fun b hb => by cases hb)
/-- A block that was made as a row. -/
theorem blk_row {sz b : Nat} {cs : Array Value} (h : St mu w0 (blk b cs e :: M) w) (hm : n ≤ 9223372036854775807) (hs : cs.size = n * sz) : St mu w0 (rowR e sz (.slice (some ⟨b, 0, none⟩) n n) n cs.toList :: M) w :=
  h.at_ ⟨by simpa using hs, .inr ⟨b, n, cs, rfl, Nat.zero_le _, h.get 0 rfl, Nat.le_refl _, by simpa [maxLen] using hm, hs, by rw [List.take_of_length_le]; simp [hs]⟩⟩ (fun b' hb => by
    have : b = b' := by simpa [rowR, Value.ownBlock] using hb
    subst this
    rfl)
end

/-- Octets in memory of the call's own. -/
def PB (xs : List UInt8) : Value → Res → Prop := fun v r => ∃ A c fp, (0 < xs.length → ∃ b o, A = some ⟨b, o, none⟩ ∧ fp b) ∧ xs.length ≤ c ∧ v = .slice A xs.length c ∧ r = rbR fp v xs
section
variable {w w' : World} {e : TypeId} {v : Value} {n : Nat} {fp : Nat → Prop} {xs : List UInt8} {M : List Res}
theorem retRb (h : St No w M w') (k : Nat) (hk : M[k]? = some (rbR fp v xs)) : Ret w (PB xs) (.returned v) w' := by
  obtain ⟨A, c, hv, h1, _, h2⟩ := RB.form (h.get k hk)
  exact h.ret k hk ⟨A, c, fp, (fun hn => (h2 hn).elim fun b h => h.elim fun o h => ⟨b, o, h.1, h.2.1⟩), h1, hv, rfl⟩
theorem retRow {vs : List Value} (h : St No w (rowR e 1 v n vs :: M) w') (hx : vs = xs.map vu8) : Ret w (PB xs) (.returned v) w' := retRb (row_rb h hx) 0 rfl
theorem retNilB (h : St No w M w') : Ret w (PB []) (.returned (.slice none 0 0)) w' := ⟨_, rbR (fun _ => False) _ [], rfl, h.below, RB.nil, (fun b hb => hb.elim), none, 0, _, (fun h => absurd h (by simp)), Nat.le_refl _, rfl, rfl⟩
end
section
variable {X : Cfg} {ops : Array Oper} {rest : List Oper} {o : Oper} {ds : List Deferred} {L : Env} {M : List Res} {K : Kont} {d : Nat}
theorem run_app {P : Program} {w : World} (t ty e : TypeId) (z : Value) (sz bytes : Nat) (ht : P.underlying t = some (.slice e)) (hinfo : (P.info? e).map (fun i => (i.zero, i.size, i.bytes)) = some (some z, sz, bytes)) (hz : z.cells.size = sz) (hsz : 0 < sz) (hby : 0 < bytes)
    (v : Value) (n : Nat) (xs : List Value) (hown : w.ownsRow 0 e sz v n xs) (A : Option Addr) (m c : Nat) (news : List Value) (hl : news.length = m * sz) (hnews : 0 < m → ∃ a, A = some a ∧ ∀ j u, news[j]? = some u → w.cell? (a.add j) = some u) (h1 : news.all (·.oneCell') = true)
    (hbytes : (n + m) * bytes ≤ 140737488355328) :
    ∃ v' w', (Builtin.append_ #[t, t] ty #[v, .slice A m c]).run P w = .ok v' w' ∧ w'.ownsRow 0 e sz v' (n + m) (xs ++ news) ∧ w.grownBy w' v.ownBlock ∧ (v' = .slice none 0 0 ↔ v = .slice none 0 0 ∧ m = 0) ∧ (v'.ownBlock = v.ownBlock ∨ v'.ownBlock = some w.heap.size) := by
  obtain ⟨i0, hi, hzz⟩ := Option.map_eq_some_iff.1 hinfo
  simp only [Prod.mk.injEq] at hzz
  obtain ⟨hz0, hz1, hz2⟩ := hzz
  have hle : n + m ≤ 140737488355328 := Nat.le_trans (Nat.le_mul_of_pos_right _ hby) hbytes
  rcases Nat.eq_zero_or_pos m with h0 | h0
  · subst h0
    obtain rfl : news = [] := List.eq_nil_of_length_eq_zero (by omega)
    have hld : ∀ a : Addr, (loadCells a 0).run P w = .ok #[] w := fun a => by simpa using run_loadCells_list (P := P) w a [] (by simp)
    refine ⟨v, w, ?_, by simpa using hown, World.grownBy.refl w _, by simp, .inl rfl⟩
    rcases hown.2 with ⟨rfl, hn⟩ | ⟨g, cap, cur, rfl, _, _, hnc, _⟩
    · subst hn
      cases A <;> simp [Builtin.append_, run_underlying ht, sizeOf, typeInfo, hi, Builtin.lenOf, Builtin.firstCells, hld]
    · cases A <;> simp [Builtin.append_, run_underlying ht, sizeOf, typeInfo, hi, Builtin.lenOf, Builtin.firstCells, hnc, storeCells, hld]
  · obtain ⟨a, rfl, hc⟩ := hnews h0
    obtain ⟨v', w', h2, h3, h4, h5, h6⟩ := run_append_own_at w (P := P) 0 t ty e i0 z sz bytes ht hi hz0 hz1 hz2 hz hsz v n xs hown a m c news hl hc (fun u hu => List.all_eq_true.1 h1 u hu) (by simp only [maxLen]; omega) hbytes (Nat.zero_le _)
    exact ⟨v', w', h2, h3, h4, h5, h6⟩
/-- append(v, src...), v a row of one's own. -/
theorem J.app (k : Nat) {t e : TypeId} {sz bytes n m c : Nat} {z : Value} {x y : Operand} {v : Value} {A : Option Addr} {xs news : List Value} (ho : o.op = .call { callee := .builtin .append, args := #[x, y], argTypes := #[t, t] }) (hg : o.guard = none) (hd : o.dst = some d) (hN : Nat.blt d X.N = true) (hx : evl L x = some v) (hy : evl L y = some (.slice A m c))
    (ht : X.P.underlying t = some (.slice e)) (hinfo : (X.P.info? e).map (fun i => (i.zero, i.size, i.bytes)) = some (some z, sz, bytes)) (hz : z.cells.size = sz) (hsz : Nat.blt 0 sz = true) (hby : Nat.blt 0 bytes = true) (hk : M[k]? = some (rowR e sz v n xs))
    (hl : news.length = m * sz) (hnews : ∀ w, St X.mu X.w0 M w → 0 < m → ∃ a, A = some a ∧ ∀ j u, news[j]? = some u → w.cell? (a.add j) = some u) (h1 : news.all (·.oneCell') = true) (hbytes : (n + m) * bytes ≤ 140737488355328)
    (h : ∀ v', J X ops rest ds ((d, v') :: L) (M.set k (rowR e sz v' (n + m) (xs ++ news))) K) : J X ops (o :: rest) ds L M K := by
  intro Q hQ a w ha hw
  obtain ⟨v', w', hr, h2, h3, h4, h5⟩ := run_app (P := X.P) (w := w) t o.type e z sz bytes ht hinfo hz (by simpa [Nat.blt_eq] using hsz) (by simpa [Nat.blt_eq] using hby) v n xs (hw.get k hk) A m c news hl (hnews w hw) h1 hbytes
  refine wpl_val (v := v') (w' := w') hg (by simp [ho]) ?_ (h v' Q hQ _ _ (ha.putd hd hN v') ?_)
  · unfold execOp; rw [ho]
    simp only [resolve, invoke, builtin, List.map_toArray, List.map_cons, List.map_nil, ha.eval hx, ha.eval hy, Sem.run_bind, Sem.run_pure, Result.andThen, hr]
  · have hfr := hw.front k hk
    have := St.change (r' := rowR e sz v' (n + m) (xs ++ news)) hfr h3.os h3.tape h3.output h3.size (fun b hb hne => h3.block b hb (fun e => hne e.symm)) h2 (fun b hb => ?_)
    · exact this.perm (set_perm M k hk).symm
    · rcases h5 with h5 | h5
      · exact .inl (h5.symm.trans (show v'.ownBlock = some b from hb))
      · right
        have : w.heap.size = b := by
          have hb' : v'.ownBlock = some b := hb
          rw [h5] at hb'; exact Option.some.inj hb'
        subst this
        exact ⟨Nat.le_refl _, (h2.lt _ h5).2⟩
/-- append(nil, src...). -/
theorem J.app0 {t e : TypeId} {sz bytes m c : Nat} {z : Value} {x y : Operand} {A : Option Addr} {news : List Value} (ho : o.op = .call { callee := .builtin .append, args := #[x, y], argTypes := #[t, t] }) (hg : o.guard = none) (hd : o.dst = some d) (hN : Nat.blt d X.N = true) (hx : evl L x = some (.slice none 0 0)) (hy : evl L y = some (.slice A m c))
    (ht : X.P.underlying t = some (.slice e)) (hinfo : (X.P.info? e).map (fun i => (i.zero, i.size, i.bytes)) = some (some z, sz, bytes)) (hz : z.cells.size = sz) (hsz : Nat.blt 0 sz = true) (hby : Nat.blt 0 bytes = true)
    (hl : news.length = m * sz) (hnews : ∀ w, St X.mu X.w0 M w → 0 < m → ∃ a, A = some a ∧ ∀ j u, news[j]? = some u → w.cell? (a.add j) = some u) (h1 : news.all (·.oneCell') = true) (hbytes : m * bytes ≤ 140737488355328)
    (h : ∀ v', J X ops rest ds ((d, v') :: L) (rowR e sz v' m news :: M) K) : J X ops (o :: rest) ds L M K := by
  intro Q hQ a w ha hw
  obtain ⟨v', w', hr, h2, h3, h4, h5⟩ := run_app (P := X.P) (w := w) t o.type e z sz bytes ht hinfo hz (by simpa [Nat.blt_eq] using hsz) (by simpa [Nat.blt_eq] using hby) (.slice none 0 0) 0 [] (World.ownsRow_nil w 0 e sz) A m c news hl (hnews w hw) h1 (by simpa using hbytes)
  refine wpl_val (v := v') (w' := w') hg (by simp [ho]) ?_ (h v' Q hQ _ _ (ha.putd hd hN v') ?_)
  · unfold execOp; rw [ho]
    simp only [resolve, invoke, builtin, List.map_toArray, List.map_cons, List.map_nil, ha.eval hx, ha.eval hy, Sem.run_bind, Sem.run_pure, Result.andThen, hr]
  · refine hw.grow (r := rowR e sz v' m news) ⟨h3.os, h3.tape, h3.output, h3.size, fun b hb => h3.block b hb (by simp [Value.ownBlock])⟩ (by have h2' := h2; rw [Nat.zero_add, List.nil_append] at h2'; exact h2') (fun b hb => ?_)
    rcases h5 with h5 | h5
    · have hb' : v'.ownBlock = some b := hb
      rw [h5] at hb'
      cases hb'
    · have : w.heap.size = b := by
        have hb' : v'.ownBlock = some b := hb
        rw [h5] at hb'; exact Option.some.inj hb'
      subst this
      exact ⟨Nat.le_refl _, (h2.lt _ h5).2⟩
/-- make([]T, n), items of one cell. -/
theorem J.mk {t e : TypeId} {bytes : Nat} {z : Value} {x y : Operand} {kl kc : IntKind} {n : Nat} {i j : Int} (ho : o.op = .makeSlice t x y) (hg : o.guard = none) (hd : o.dst = some d) (hN : Nat.blt d X.N = true) (hx : evl L x = some (.int kl i)) (hy : evl L y = some (.int kc j)) (hi : i = (n : Int)) (hj : j = (n : Int))
    (ht : X.P.underlying t = some (.slice e)) (hinfo : (X.P.info? e).map (fun i => (i.zero, i.size, i.bytes)) = some (some z, 1, bytes)) (hz : z.cells = #[z]) (hbytes : bytes * n ≤ 281474976710656) (hn : n ≤ 9223372036854775807)
    (h : ∀ b, J X ops rest ds ((d, .slice (some ⟨b, 0, none⟩) n n) :: L) (blk b (List.replicate n z).toArray e :: M) K) : J X ops (o :: rest) ds L M K := by
  intro Q hQ a w ha hw
  subst hi hj
  refine wpl_val (v := .slice (some ⟨w.heap.size, 0, none⟩) n n) (w' := w.alloc (.cells (List.replicate n z).toArray e)) hg (by simp [ho]) ?_ (h w.heap.size Q hQ _ _ (ha.putd hd hN _) (hw.alloc _))
  have hmk : madeCells #[z] n = (List.replicate n z).toArray := by rw [← Array.toList_inj, toList_madeCells_one]
  rw [← hmk]
  unfold execOp; rw [ho]
  simp only [ha.eval hx, ha.eval hy, Sem.run_bind, run_make_row' t e z bytes ht hinfo hz kl kc n hbytes hn w, Result.andThen, Sem.run_pure]
/-- copy(dst, src) into a block of one's own. -/
theorem J.copy (k : Nat) {t1 t2 e t' : TypeId} {b off n c m c2 : Nat} {x y : Operand} {A : Option Addr} {cs : Array Value} {news : List Value} (ho : o.op = .call { callee := .builtin .copy, args := #[x, y], argTypes := #[t1, t2] }) (hg : o.guard = none) (hd : o.dst = some d) (hN : Nat.blt d X.N = true) (hx : evl L x = some (.slice (some ⟨b, off, none⟩) n c)) (hy : evl L y = some (.slice A m c2))
    (hu : X.P.underlying t1 = some (.slice e)) (hs : (X.P.info? e).map (·.size) = some 1) (hk : M[k]? = some (blk b cs t')) (hl : news.length = Nat.min m n) (hnews : ∀ w, St X.mu X.w0 M w → 0 < m → ∃ a, A = some a ∧ ∀ j u, news[j]? = some u → w.cell? (a.add j) = some u) (hfit : off + news.length ≤ cs.size) (h1 : news.all (·.oneCell') = true)
    (h : J X ops rest ds ((d, .int .i64 news.length) :: L) (M.set k (blk b (cs.toList.take off ++ news ++ cs.toList.drop (off + news.length)).toArray t')) K) : J X ops (o :: rest) ds L M K := by
  intro Q hQ a w ha hw
  have hb : w.heap[b]? = some (.cells cs t' (0, 0)) := hw.get k hk
  have hrun : ∃ w', (Builtin.copy_ #[t1, t2] o.type #[.slice (some ⟨b, off, none⟩) n c, .slice A m c2]).run X.P w = .ok (goInt news.length) w' ∧ w'.os = w.os ∧ w'.tape = w.tape ∧ w'.output = w.output ∧ w'.heap.size = w.heap.size ∧ (∀ j, j ≠ b → w'.heap[j]? = w.heap[j]?) ∧ w'.heap[b]? = some (.cells (cs.toList.take off ++ news ++ cs.toList.drop (off + news.length)).toArray t' (0, 0)) := by
    rcases Nat.eq_zero_or_pos m with h0 | h0
    · subst h0
      obtain rfl : news = [] := List.eq_nil_of_length_eq_zero (by rw [hl]; exact Nat.zero_min n)
      refine ⟨w, ?_, rfl, rfl, rfl, rfl, fun _ _ => rfl, by rw [hb]; simp⟩
      obtain ⟨i0, hi, hsz⟩ := Option.map_eq_some_iff.1 hs
      have hld : ∀ a : Addr, (loadCells a 0).run X.P w = .ok #[] w := fun a => by simpa using run_loadCells_list (P := X.P) w a [] (by simp)
      cases A <;> simp [Builtin.copy_, run_underlying hu, Builtin.lenOf, Builtin.firstCells, sizeOf, typeInfo, hi, storeCells, hld, Nat.zero_min]
    · obtain ⟨a, rfl, hc⟩ := hnews w hw h0
      refine ⟨_, run_copy_row X.P w t1 t2 o.type e b off n c a m c2 cs t' news hu hs hb hl hc hfit (fun u hu => List.all_eq_true.1 h1 u hu), rfl, rfl, rfl, by simp, fun j hj => ?_, ?_⟩
      · simp only [World.setRow, Array.getElem?_modify]
        rw [if_neg (Ne.symm hj)]
      · exact setRow_heap w b cs _ t' _ hb
  obtain ⟨w', hr, h2, h3, h4, h5, h6, h7⟩ := hrun
  refine wpl_val (v := goInt news.length) (w' := w') hg (by simp [ho]) ?_ (h Q hQ _ _ (ha.putd hd hN _) (hw.setObj k hk h2 h3 h4 h5 h6 h7))
  unfold execOp; rw [ho]
  simp only [resolve, invoke, builtin, List.map_toArray, List.map_cons, List.map_nil, ha.eval hx, ha.eval hy, Sem.run_bind, Sem.run_pure, Result.andThen, hr]
/-- The cells of octets, as a source. -/
theorem srcB {w : World} {fp : Nat → Prop} {A : Option Addr} {n c : Nat} {xs : List UInt8} (h : RB fp w (.slice A n c) xs) (hn : 0 < n) : ∃ a, A = some a ∧ ∀ j u, (xs.map vu8)[j]? = some u → w.cell? (a.add j) = some u := by
  obtain ⟨A', c', hv, _, _, h3⟩ := h.form
  injection hv with e1 e2 e3
  subst e1 e2 e3
  obtain ⟨b, o, rfl, _, hc⟩ := h3 hn
  refine ⟨_, rfl, fun j u hu => ?_⟩
  rw [List.getElem?_map, Option.map_eq_some_iff] at hu
  obtain ⟨x, hx, rfl⟩ := hu
  rw [Addr.add_mid]
  exact hc j x hx
theorem srcB_len {w : World} {fp : Nat → Prop} {A : Option Addr} {n c : Nat} {xs : List UInt8} (h : RB fp w (.slice A n c) xs) : xs.length = n := by
  obtain ⟨A', c', hv, _⟩ := h.form
  injection hv with e1 e2 e3
  exact e2.symm
theorem srcO {mu : Nat → Prop} {w0 w : World} {M : List Res} {b : Nat} {cs : List Value} {t : TypeId} (h : St mu w0 M w) (k : Nat) (hk : M[k]? = some (blk b cs.toArray t)) : ∃ a, some (⟨b, 0, none⟩ : Addr) = some a ∧ ∀ j u, cs[j]? = some u → w.cell? (a.add j) = some u :=
  ⟨_, rfl, fun j u hu => by rw [Addr.add_mid, Nat.zero_add]; exact cellO h k hk (by simpa using hu)⟩
theorem all_u8 (xs : List UInt8) : (xs.map vu8).all (·.oneCell') = true := by simp [Value.oneCell']
end
end Go.Proofs.YtiminmnmeknioaaDoor
/- Octets as strings; slices of slices of octets; cuts; sizes. -/
set_option linter.unusedVariables false
set_option linter.unusedSimpArgs false
namespace Go.Proofs.YtiminmnmeknioaaDoor
open Go Go.RowKit

/-- A string of octets. -/
def bstr (xs : List UInt8) : ByteArray := ⟨xs.toArray⟩
theorem bstr_nil : bstr [] = ByteArray.empty := rfl
theorem bstr_toList (xs : List UInt8) : (bstr xs).toList = xs := by
  rw [ByteArray.toList_eq]
  rfl

section
variable {P : Program} {w : World} {fp : Nat → Prop}
theorem conv_str {src dst e : TypeId} (hs : P.underlying src = some (.slice e)) (he : P.underlying e = some (.int .u8)) (hd : P.underlying dst = some .string) {v : Value} {xs : List UInt8} (h : RB fp w v xs) : (convert src dst v).run P w = .ok (.string (bstr xs)) w := by
  obtain ⟨A, c, rfl, h1, h2, h3⟩ := h.form
  rcases Nat.eq_zero_or_pos xs.length with h0 | h0
  · obtain rfl : xs = [] := List.eq_nil_of_length_eq_zero h0
    cases A with
    | none => exact run_convert_bytes_nil w src e hs he _ _ dst hd
    | some a =>
      have hld : (loadCells a 0).run P w = .ok #[] w := by simpa using run_loadCells_list (P := P) w a [] (by simp)
      simp only [List.length_nil]
      rw [run_convert_bytes_string w src dst e _ 0 c hs he hd]
      simp [Conv.bytesToString, hld, Sem.run_bind, bstr_nil]
  · obtain ⟨b, o, rfl, _, hc⟩ := h3 h0
    have := run_convert_bytes_arg (P := P) w src e hs he b o xs.length c (xs.map fun x => (x.toNat : Int)) (by simp) (fun i hi => by
      rw [hc i xs[i] (by simp)]
      simp [List.getD_eq_getElem?_getD, hi]) dst hd
    rw [this]
    congr 2
    simp only [strOfNums, bstr, List.map_map]
    congr 2
    rw [List.map_congr_left (g := id)]
    · simp
    · intro x _
      simp
theorem str_eql {t : TypeId} (x y : List UInt8) : (binOp .eql t (.string (bstr x)) (.string (bstr y))).run P w = .ok (.bool (decide (x = y))) w := by
  show Result.ok (Value.bool ((bstr x).toList == (bstr y).toList)) w = _
  rw [bstr_toList, bstr_toList]
  congr 2
  rw [Bool.eq_iff_iff]; simp
theorem str_neq {t : TypeId} (x y : List UInt8) : (binOp .neq t (.string (bstr x)) (.string (bstr y))).run P w = .ok (.bool (!decide (x = y))) w := by
  show Result.ok (Value.bool (!((bstr x).toList == (bstr y).toList))) w = _
  rw [bstr_toList, bstr_toList]
  congr 3
  rw [Bool.eq_iff_iff]; simp
theorem guard_str {p : BinOp} {t : TypeId} {x y : Operand} {a b : ByteArray} : (eqGuard p t x y (.string a) (.string b)).run P w = .ok () w := by
  unfold eqGuard; cases p <;> rfl
theorem str_eql_g {t : TypeId} {p q : Operand} (x y : List UInt8) : (do eqGuard .eql t p q (.string (bstr x)) (.string (bstr y)); binOp .eql t (.string (bstr x)) (.string (bstr y))).run P w = .ok (.bool (decide (x = y))) w := by
  simp only [Sem.run_bind, guard_str, Result.andThen, str_eql]
theorem str_neq_g {t : TypeId} {p q : Operand} (x y : List UInt8) : (do eqGuard .neq t p q (.string (bstr x)) (.string (bstr y)); binOp .neq t (.string (bstr x)) (.string (bstr y))).run P w = .ok (.bool (!decide (x = y))) w := by
  simp only [Sem.run_bind, guard_str, Result.andThen, str_neq]
/-- A slice against nil. -/
theorem slice_eql_nil {t e : TypeId} (hu : P.underlying t = some (.slice e)) (A : Option Addr) (n c : Nat) {x y : Operand} : (do eqGuard .eql t x y (.slice A n c) (.slice none 0 0); binOp .eql t (.slice A n c) (.slice none 0 0)).run P w = .ok (.bool A.isNone) w := by
  have h1 : (eqGuard .eql t x y (.slice A n c) (.slice none 0 0)).run P w = .ok () w := by unfold eqGuard; rfl
  simp only [Sem.run_bind, h1, Result.andThen]
  exact Lib.run_eql_slice_nil w t e A n c 0 0 hu
theorem slice_neq_nil {t e : TypeId} (hu : P.underlying t = some (.slice e)) (A : Option Addr) (n c : Nat) {x y : Operand} : (do eqGuard .neq t x y (.slice A n c) (.slice none 0 0); binOp .neq t (.slice A n c) (.slice none 0 0)).run P w = .ok (.bool (!A.isNone)) w := by
  have h1 : (eqGuard .neq t x y (.slice A n c) (.slice none 0 0)).run P w = .ok () w := by unfold eqGuard; rfl
  simp only [Sem.run_bind, h1, Result.andThen]
  exact Go.run_neq_slice_nil_any w t e A n c 0 0 hu
end

/-! ### Cuts -/
section
variable {P : Program} {t e : TypeId} {sz : Nat}
/-- s[l:h], and what it comes to. -/
theorem slc_lh {A : Option Addr} {n c : Nat} {kl kh : IntKind} {l h : Int} (hu : P.underlying t = some (.slice e)) (hz : ∀ w, (sizeOf e).run P w = .ok sz w) (h0 : 0 ≤ l) (h1 : l ≤ h) (h2 : h ≤ c) :
    ∀ w, (Instr.sliceAt t (.slice A n c) (some (.int kl l)) (some (.int kh h)) none).run P w = .ok (.slice (if c = l.toNat then A else A.map (·.add (l.toNat * sz))) (h.toNat - l.toNat) (c - l.toNat)) w := by
  intro w
  unfold Instr.sliceAt Instr.slice Instr.sliceBounds
  simp only [Sem.run_bind, run_underlying hu, Result.andThen, Sem.run_pure, run_sliceBound w kh h c _ (by omega) h2, run_sliceBound w kl l h.toNat _ h0 (by omega), hz]
theorem slc_h {A : Option Addr} {n c : Nat} {kh : IntKind} {h : Int} (hu : P.underlying t = some (.slice e)) (hz : ∀ w, (sizeOf e).run P w = .ok sz w) (h1 : 0 ≤ h) (h2 : h ≤ c) :
    ∀ w, (Instr.sliceAt t (.slice A n c) none (some (.int kh h)) none).run P w = .ok (.slice A h.toNat c) w := by
  intro w
  unfold Instr.sliceAt Instr.slice Instr.sliceBounds
  simp only [Sem.run_bind, run_underlying hu, Result.andThen, Sem.run_pure, run_sliceBound w kh h c _ h1 h2, hz, Nat.sub_zero, Nat.zero_mul]
  congr 2
  cases A with
  | none => simp
  | some a => simp [Addr.add]
theorem slc_l {A : Option Addr} {n c : Nat} {kl : IntKind} {l : Int} (hu : P.underlying t = some (.slice e)) (hz : ∀ w, (sizeOf e).run P w = .ok sz w) (h1 : 0 ≤ l) (h2 : l ≤ n) :
    ∀ w, (Instr.sliceAt t (.slice A n c) (some (.int kl l)) none none).run P w = .ok (.slice (if c = l.toNat then A else A.map (·.add (l.toNat * sz))) (n - l.toNat) (c - l.toNat)) w := by
  intro w
  unfold Instr.sliceAt Instr.slice Instr.sliceBounds
  simp only [Sem.run_bind, run_underlying hu, Result.andThen, Sem.run_pure, run_sliceBound w kl l n _ h1 h2, hz]
theorem slc_0 {A : Option Addr} {n c : Nat} (hu : P.underlying t = some (.slice e)) (hz : ∀ w, (sizeOf e).run P w = .ok sz w) :
    ∀ w, (Instr.sliceAt t (.slice A n c) none none none).run P w = .ok (.slice A n c) w := by
  intro w
  unfold Instr.sliceAt Instr.slice Instr.sliceBounds
  simp only [Sem.run_bind, run_underlying hu, Result.andThen, Sem.run_pure, hz, Nat.sub_zero, Nat.zero_mul]
  congr 2
  cases A with
  | none => simp
  | some a => simp [Addr.add]
end
section
variable {fp : Nat → Prop} {w : World} {xs : List UInt8}
theorem RB.take_ {A : Option Addr} {n c : Nat} (h : RB fp w (.slice A n c) xs) (k : Nat) (hk : k ≤ n) : RB fp w (.slice A k c) (xs.take k) := by
  obtain ⟨A', c', hv, h1, h2, h3⟩ := h.form
  injection hv with e1 e2 e3
  subst e1 e2 e3
  refine RB.mk (by simp; omega) (by omega) (by omega) fun hn => ?_
  obtain ⟨b, o, rfl, hb, hc⟩ := h3 (by omega)
  refine ⟨b, o, rfl, hb, fun j x hx => hc j x ?_⟩
  rw [List.getElem?_take] at hx
  split at hx
  · exact hx
  · cases hx
theorem RB.drop_ {A : Option Addr} {n c : Nat} (h : RB fp w (.slice A n c) xs) (l : Nat) (hl : l ≤ n) : RB fp w (.slice (if c = l then A else A.map (·.add (l * 1))) (n - l) (c - l)) (xs.drop l) := by
  have hlen := srcB_len h
  have := h.cut l n hl (Nat.le_refl _)
  rwa [List.take_of_length_le (by omega)] at this
end

/-! ### Slices of slices of octets -/
def isB (fp : Nat → Prop) (w : World) (xs : List UInt8) (cs : List Value) : Prop := ∃ v, cs = [v] ∧ RB fp w v xs
def RBS (fp : Nat → Prop) (w : World) (v : Value) (xss : List (List UInt8)) : Prop := RSl 1 (isB fp) fp w v xss
abbrev BSA (w : World) (v : Value) (xss : List (List UInt8)) : Prop := RBS (Old w) w v xss
section
variable {mu fp fp' : Nat → Prop} {w w' w0 : World} {v : Value} {xss : List (List UInt8)} {M : List Res}
theorem RBS.imp (h : RBS fp w v xss) (hf : ∀ b, fp b → fp' b) (hc : ∀ b, fp b → w'.heap[b]? = w.heap[b]?) : RBS fp' w' v xss :=
  RSl.imp h hf hc fun _ _ ⟨v, h1, h2⟩ => ⟨v, h1, h2.imp hf hc⟩
theorem RBS.later (h : BSA w v xss) (hb : Below w.heap.size w w') : BSA w' v xss := RBS.imp h (fun b hb' => Nat.lt_of_lt_of_le hb' hb.size) (fun b hb' => hb.block b hb')
theorem RBS.form (h : RBS fp w v xss) : ∃ A c, v = .slice A xss.length c ∧ xss.length ≤ c ∧ c ≤ 9223372036854775807 ∧ (0 < xss.length → ∃ b o, A = some ⟨b, o, none⟩ ∧ fp b ∧ ∀ j xs, xss[j]? = some xs → ∃ u, w.cell? ⟨b, o + j, none⟩ = some u ∧ RB fp w u xs) := by
  obtain ⟨A, n, c, rfl, rfl, h1, h2, h3⟩ := h
  refine ⟨A, c, rfl, h1, h2, fun hn => ?_⟩
  obtain ⟨b, o, hA, hb, hc⟩ := h3 hn
  refine ⟨b, o, hA, hb, fun j x hx => ?_⟩
  obtain ⟨cs, _, ⟨v, rfl, hv⟩, hcs⟩ := hc j x hx
  have := hcs 0 _ rfl
  exact ⟨v, by simpa using this, hv⟩
theorem RBS.mk {A : Option Addr} {n c : Nat} (hl : xss.length = n) (h1 : n ≤ c) (h2 : c ≤ 9223372036854775807) (h3 : 0 < n → ∃ b o, A = some ⟨b, o, none⟩ ∧ fp b ∧ ∀ j xs, xss[j]? = some xs → ∃ u, w.cell? ⟨b, o + j, none⟩ = some u ∧ RB fp w u xs) : RBS fp w (.slice A n c) xss := by
  refine ⟨A, n, c, rfl, hl, h1, h2, fun hn => ?_⟩
  obtain ⟨b, o, hA, hb, hc⟩ := h3 hn
  refine ⟨b, o, hA, hb, fun j x hx => ?_⟩
  obtain ⟨u, hu, hr⟩ := hc j x hx
  exact ⟨[u], rfl, ⟨u, rfl, hr⟩, fun i u' hu' => by
    cases i with
    | zero => simp only [List.getElem?_cons_zero, Option.some.injEq] at hu'; subst hu'; simpa using hu
    | succ i => simp at hu'⟩
def rbsR (fp : Nat → Prop) (v : Value) (xss : List (List UInt8)) : Res := ⟨fp, fun w => RBS fp w v xss, fun w w' hc h => RBS.imp h (fun _ h => h) hc⟩
theorem St.rbs (h : St mu w0 M w) (k : Nat) (hk : M[k]? = some (rbsR fp v xss)) : BSA w v xss := RBS.imp (h.get k hk) (fun b hb => (h.bd k hk hb).2) (fun _ _ => rfl)
theorem St.bsa (h : St No w0 M w) (hx : BSA w0 v xss) : BSA w v xss := hx.later h.below
theorem RBS.nil : RBS fp w (.slice none 0 0) [] := RSl.nil 0 (by omega) none
end
/-! ### Slices of whole numbers -/
def isI (_ : World) (x : Int) (cs : List Value) : Prop := cs = [.int .i64 x]
def RI (fp : Nat → Prop) (w : World) (v : Value) (xs : List Int) : Prop := RSl 1 isI fp w v xs
abbrev IA (w : World) (v : Value) (xs : List Int) : Prop := RI (Old w) w v xs
section
variable {mu fp fp' : Nat → Prop} {w w' w0 : World} {v : Value} {xs : List Int} {M : List Res}
theorem RI.imp (h : RI fp w v xs) (hf : ∀ b, fp b → fp' b) (hc : ∀ b, fp b → w'.heap[b]? = w.heap[b]?) : RI fp' w' v xs := RSl.imp h hf hc fun _ _ h => h
theorem RI.later (h : IA w v xs) (hb : Below w.heap.size w w') : IA w' v xs := RI.imp h (fun b hb' => Nat.lt_of_lt_of_le hb' hb.size) (fun b hb' => hb.block b hb')
theorem St.ia (h : St No w0 M w) (hx : IA w0 v xs) : IA w v xs := hx.later h.below
theorem RI.form (h : RI fp w v xs) : ∃ A c, v = .slice A xs.length c ∧ xs.length ≤ c ∧ c ≤ 9223372036854775807 ∧ (0 < xs.length → ∃ b o, A = some ⟨b, o, none⟩ ∧ fp b ∧ ∀ j x, xs[j]? = some x → w.cell? ⟨b, o + j, none⟩ = some (.int .i64 x)) := by
  obtain ⟨A, n, c, rfl, rfl, h1, h2, h3⟩ := h
  refine ⟨A, c, rfl, h1, h2, fun hn => ?_⟩
  obtain ⟨b, o, hA, hb, hc⟩ := h3 hn
  refine ⟨b, o, hA, hb, fun j x hx => ?_⟩
  obtain ⟨cs, _, rfl, hcs⟩ := hc j x hx
  have := hcs 0 _ rfl
  simpa using this
theorem RI.mk {A : Option Addr} {n c : Nat} (hl : xs.length = n) (h1 : n ≤ c) (h2 : c ≤ 9223372036854775807) (h3 : 0 < n → ∃ b o, A = some ⟨b, o, none⟩ ∧ fp b ∧ ∀ j x, xs[j]? = some x → w.cell? ⟨b, o + j, none⟩ = some (.int .i64 x)) : RI fp w (.slice A n c) xs := by
  refine ⟨A, n, c, rfl, hl, h1, h2, fun hn => ?_⟩
  obtain ⟨b, o, hA, hb, hc⟩ := h3 hn
  exact ⟨b, o, hA, hb, fun j x hx => ⟨[.int .i64 x], rfl, rfl, fun i u hu => by
    cases i with
    | zero => simp only [List.getElem?_cons_zero, Option.some.injEq] at hu; subst hu; simpa using hc j x hx
    | succ i => simp at hu⟩⟩
def riR (fp : Nat → Prop) (v : Value) (xs : List Int) : Res := ⟨fp, fun w => RI fp w v xs, fun w w' hc h => RI.imp h (fun _ h => h) hc⟩
theorem St.ri (h : St mu w0 M w) (k : Nat) (hk : M[k]? = some (riR fp v xs)) : IA w v xs := RI.imp (h.get k hk) (fun b hb => (h.bd k hk hb).2) (fun _ _ => rfl)
end
/-- append(nil, make([]T, n)...), n > 0. -/
theorem J.appz {X : Cfg} {ops : Array Oper} {rest : List Oper} {o : Oper} {ds : List Deferred} {L : Env} {M : List Res} {K : Kont} {d : Nat} {t tn e : TypeId} {sz bytes : Nat} {z : Value} {x y : Operand} {k kn : IntKind} {i : Int} (n : Nat) (ho : o.op = .call { callee := .builtin .append, args := #[x, y], argTypes := #[t, tn] }) (hg : o.guard = none) (hd : o.dst = some d) (hN : Nat.blt d X.N = true) (hx : evl L x = some (.slice none 0 0)) (hy : evl L y = some (.int k i)) (hi : i = (n : Int))
    (ht : X.P.underlying t = some (.slice e)) (htn : X.P.underlying tn = some (.int kn)) (hinfo : (X.P.info? e).map (fun i => (i.zero, i.size, i.bytes)) = some (some z, sz, bytes)) (hz : z.cells.size = sz) (hsz : Nat.blt 0 sz = true) (hby : Nat.blt 0 bytes = true) (h0 : 0 < n) (hbytes : n * bytes ≤ 140737488355328)
    (h : ∀ b cap cs, n ≤ cap → cap ≤ 9223372036854775807 → cs.size = cap * sz → J X ops rest ds ((d, .slice (some ⟨b, 0, none⟩) n cap) :: L) (blk b cs e :: M) K) : J X ops (o :: rest) ds L M K := by
  intro Q hQ a w ha hw
  subst hi
  obtain ⟨i0, hi, hzz⟩ := Option.map_eq_some_iff.1 hinfo
  simp only [Prod.mk.injEq] at hzz
  obtain ⟨hz0, hz1, hz2⟩ := hzz
  have hsz' : 0 < sz := by simpa [Nat.blt_eq] using hsz
  have hby' : 0 < bytes := by simpa [Nat.blt_eq] using hby
  have hle : n ≤ 140737488355328 := Nat.le_trans (Nat.le_mul_of_pos_right _ hby') hbytes
  have hr := Lib.run_append_nil_zeros (P := X.P) w t tn o.type e i0 z k kn ht htn hi hz0 n h0 (by omega) (by omega) (by rw [hz2]; omega)
  have hge := grownCap_ge w n 0 e
  have hcap : grownCap w n 0 e ≤ 9223372036854775807 := by have := grownCap_le_maxLen w n 0 e (by simp only [maxLen]; omega); simpa [maxLen] using this
  refine wpl_val (w' := w.drew.alloc (.cells (Builtin.zeroCells z.cells n ++ Builtin.zeroCells z.cells (grownCap w n 0 e - n)) e)) hg (by simp [ho]) ?_ (h w.heap.size (grownCap w n 0 e) (Builtin.zeroCells z.cells n ++ Builtin.zeroCells z.cells (grownCap w n 0 e - n)) hge hcap ?_ Q hQ _ _ (ha.putd hd hN _) ?_)
  · unfold execOp; rw [ho]
    simp only [resolve, invoke, builtin, List.map_toArray, List.map_cons, List.map_nil, ha.eval hx, ha.eval hy, Sem.run_bind, Sem.run_pure, Result.andThen, hr]
  · rw [Array.size_append, size_zeroCells, size_zeroCells, hz, ← Nat.add_mul]
    congr 1
    omega
  · exact hw.drew.alloc _
/-- cap. -/
theorem J.cap {X : Cfg} {ops : Array Oper} {rest : List Oper} {o : Oper} {ds : List Deferred} {L : Env} {M : List Res} {K : Kont} {d : Nat} {t : TypeId} {x : Operand} {A : Option Addr} {n c : Nat} {e : TypeId} (ho : o.op = .call { callee := .builtin .cap, args := #[x], argTypes := #[t] }) (hg : o.guard = none) (hd : o.dst = some d) (hN : Nat.blt d X.N = true) (hx : evl L x = some (.slice A n c)) (hu : ∀ w, (underlying t).run X.P w = .ok (.slice e) w)
    (h : J X ops rest ds ((d, .int .i64 c) :: L) M K) : J X ops (o :: rest) ds L M K :=
  J.val hg hd hN (by simp [ho]) (fun a w ha hw => by
    unfold execOp; rw [ho]; simp only [resolve, invoke, builtin, List.map_toArray, List.map_cons, List.map_nil, ha.eval hx, Sem.run_bind, Sem.run_pure, Result.andThen]
    unfold Builtin.cap_
    simp only [List.getElem?_toArray, List.getElem?_cons_zero, Sem.run_bind, hu, Result.andThen, Sem.run_pure, goInt]) h
end Go.Proofs.YtiminmnmeknioaaDoor
/- Contracts with several pieces of memory; readers over octets of someone else's. -/
set_option linter.unusedVariables false
set_option linter.unusedSimpArgs false
namespace Go.Proofs.YtiminmnmeknioaaDoor
open Go Go.RowKit

/-- A call that may write the blocks of mu, and answers several pieces. -/
def RetL (mu : Nat → Prop) (w : World) (Φ : Value → List Res → Prop) (e : Ending) (w' : World) : Prop :=
  ∃ v Rs, e = .returned v ∧ Frm mu w w' ∧ (∀ r ∈ Rs, r.hold w') ∧ (∀ r ∈ Rs, ∀ b, r.fp b → mu b ∨ (w.heap.size ≤ b ∧ b < w'.heap.size)) ∧ Rs.Pairwise (fun r s => ∀ b, r.fp b → s.fp b → False) ∧ Φ v Rs
section
variable {mu : Nat → Prop} {w0 w w' : World} {M Rs : List Res} {r s : Res}
theorem St.changeL (h : St mu w0 (r :: M) w) (hos : w'.os = w.os) (htape : w'.tape = w.tape) (hout : w'.output = w.output) (hsize : w.heap.size ≤ w'.heap.size)
    (hsame : ∀ b, b < w.heap.size → ¬ r.fp b → w'.heap[b]? = w.heap[b]?) (hr : ∀ s ∈ Rs, s.hold w') (hf : ∀ s ∈ Rs, ∀ b, s.fp b → r.fp b ∨ (w.heap.size ≤ b ∧ b < w'.heap.size)) (hpw : Rs.Pairwise (fun r s => ∀ b, r.fp b → s.fp b → False)) : St mu w0 (Rs ++ M) w' := by
  have hp := List.pairwise_cons.1 h.sep
  refine ⟨⟨hos.trans h.frm.os, htape.trans h.frm.tape, hout.trans h.frm.output, Nat.le_trans h.frm.size hsize, fun k hk hm => ?_⟩, ?_, ?_, ?_⟩
  · rw [hsame k (Nat.lt_of_lt_of_le hk h.frm.size) fun hk' => ?_]
    · exact h.frm.block k hk hm
    · rcases (h.bnd r List.mem_cons_self k hk').1 with h1 | h1
      · omega
      · exact hm h1
  · intro s hs
    rcases List.mem_append.1 hs with hs | hs
    · exact hr s hs
    · exact s.loc w w' (fun b hb => hsame b (h.bnd s (List.mem_cons_of_mem _ hs) b hb).2 (fun hr' => hp.1 s hs b hr' hb)) (h.hold s (List.mem_cons_of_mem _ hs))
  · intro s hs b hb
    rcases List.mem_append.1 hs with hs | hs
    · rcases hf s hs b hb with h1 | h1
      · have := h.bnd r List.mem_cons_self b h1
        exact ⟨this.1, Nat.lt_of_lt_of_le this.2 hsize⟩
      · exact ⟨.inl (Nat.le_trans h.frm.size h1.1), h1.2⟩
    · have := h.bnd s (List.mem_cons_of_mem _ hs) b hb
      exact ⟨this.1, Nat.lt_of_lt_of_le this.2 hsize⟩
  · refine List.pairwise_append.2 ⟨hpw, hp.2, fun r' hr' s hs b h1 h2 => ?_⟩
    rcases hf r' hr' b h1 with h1 | h1
    · exact hp.1 s hs b h1 h2
    · have := (h.bnd s (List.mem_cons_of_mem _ hs) b h2).2; omega
/-- New pieces. -/
theorem St.growL (h : St mu w0 M w) (hb : Below w.heap.size w w') (hr : ∀ s ∈ Rs, s.hold w') (hf : ∀ s ∈ Rs, ∀ b, s.fp b → w.heap.size ≤ b ∧ b < w'.heap.size) (hpw : Rs.Pairwise (fun r s => ∀ b, r.fp b → s.fp b → False)) : St mu w0 (Rs ++ M) w' := by
  have h' : St mu w0 ((⟨fun _ => False, fun _ => True, fun _ _ _ h => h⟩ : Res) :: M) w := by
    refine h.grow (Below.refl _ w) trivial (fun b hb => hb.elim)
  exact h'.changeL hb.os hb.tape hb.output hb.size (fun b hb' _ => hb.block b hb') hr (fun s hs b hb' => .inr (hf s hs b hb')) hpw
theorem St.retL (h : St mu w M w') {v : Value} {Φ : Value → List Res → Prop} (hs : Rs.Sublist M) (hΦ : Φ v Rs) : RetL mu w Φ (.returned v) w' :=
  ⟨v, Rs, rfl, h.frm, fun r hr => h.hold r (hs.subset hr), fun r hr b hb => (h.bnd r (hs.subset hr) b hb).1.symm.imp id (fun h1 => ⟨h1, (h.bnd r (hs.subset hr) b hb).2⟩), h.sep.sublist hs, hΦ⟩
end
section
variable {X : Cfg} {ops : Array Oper} {rest : List Oper} {o : Oper} {ds : List Deferred} {L : Env} {M : List Res} {K : Kont}
theorem J.calll (k : Nat) {f : FuncId} {args : Array Operand} {ts : Array TypeId} {d : Nat} {vs : List Value} {r0 : Res} {Φ : Value → List Res → Prop} (ho : o.op = .call { callee := .value (.func f), args := args, argTypes := ts }) (hg : o.guard = none) (hd : o.dst = some d) (hN : Nat.blt d X.N = true) (hvs : args.toList.mapM (evl L) = some vs) (hcall : ∀ args w, (callFunc f args).run X.P w = .ok (.enter f args) w)
    (hk : M[k]? = some r0) (hc : ∀ w, St X.mu X.w0 M w → Calls X.P f vs.toArray w (RetL r0.fp w Φ)) (h : ∀ v Rs, Φ v Rs → J X ops rest ds ((d, v) :: L) (Rs ++ M.eraseIdx k) K) : J X ops (o :: rest) ds L M K := by
  refine J.call ho hg hd hN hvs hcall hc ?_
  rintro w e w' hw ⟨v, Rs, rfl, hf, hr, hb, hp, hΦ⟩
  exact ⟨v, Rs ++ M.eraseIdx k, rfl, (hw.front k hk).changeL hf.os hf.tape hf.output hf.size hf.block hr hb hp, h v Rs hΦ⟩
theorem J.callrl {f : FuncId} {args : Array Operand} {ts : Array TypeId} {d : Nat} {vs : List Value} {Φ : Value → List Res → Prop} (ho : o.op = .call { callee := .value (.func f), args := args, argTypes := ts }) (hg : o.guard = none) (hd : o.dst = some d) (hN : Nat.blt d X.N = true) (hvs : args.toList.mapM (evl L) = some vs) (hcall : ∀ args w, (callFunc f args).run X.P w = .ok (.enter f args) w)
    (hc : ∀ w, St X.mu X.w0 M w → Calls X.P f vs.toArray w (RetL No w Φ)) (h : ∀ v Rs, Φ v Rs → J X ops rest ds ((d, v) :: L) (Rs ++ M) K) : J X ops (o :: rest) ds L M K := by
  refine J.call ho hg hd hN hvs hcall hc ?_
  rintro w e w' hw ⟨v, Rs, rfl, hf, hr, hb, hp, hΦ⟩
  exact ⟨v, Rs ++ M, rfl, hw.growL hf.below hr (fun s hs b h1 => (hb s hs b h1).resolve_left (fun h => h)) hp, h v Rs hΦ⟩
end

/-- One piece alone. -/
theorem St.pick {mu : Nat → Prop} {w0 w : World} {M : List Res} {r : Res} (h : St mu w0 M w) (k : Nat) (hk : M[k]? = some r) : St mu w0 [r] w :=
  (h.front k hk).sub ((List.nil_sublist _).cons_cons _)

/-! ### Octets beside one block -/
abbrev BX (bs : Nat) (w : World) (v : Value) (xs : List UInt8) : Prop := RB (fun b => b < w.heap.size ∧ b ≠ bs) w v xs
/-- What is cut out of a row of octets. -/
def SubV (v : Value) (xs : List UInt8) (v' : Value) (xs' : List UInt8) : Prop := ∀ fp w, RB fp w v xs → RB fp w v' xs'
section
variable {mu : Nat → Prop} {w0 w w' : World} {M : List Res} {bs : Nat} {v v' v'' : Value} {xs xs' xs'' : List UInt8}
theorem SubV.refl (v : Value) (xs : List UInt8) : SubV v xs v xs := fun _ _ h => h
theorem SubV.trans (h : SubV v xs v' xs') (k : SubV v' xs' v'' xs'') : SubV v xs v'' xs'' := fun fp w x => k fp w (h fp w x)
theorem SubV.nil : SubV v xs (.slice none 0 0) [] := fun _ _ _ => RB.nil
theorem BX.frm (h : BX bs w v xs) (hf : Frm (· = bs) w w') : BX bs w' v xs :=
  RB.imp h (fun b hb => ⟨Nat.lt_of_lt_of_le hb.1 hf.size, hb.2⟩) (fun b hb => hf.block b hb.1 hb.2)
theorem St.bx (h : St (· = bs) w0 M w) (hx : BX bs w0 v xs) : BX bs w v xs := hx.frm h.frm
/-- Octets of one piece, beside the block that is another. -/
theorem St.bx2 (h : St mu w0 M w) (k j : Nat) (hne : k ≠ j) {cs : Array Value} {t : TypeId} {fp : Nat → Prop} (hk : M[k]? = some (blk bs cs t)) (hj : M[j]? = some (rbR fp v xs)) : BX bs w v xs := by
  refine RB.imp (h.get j hj) (fun b hb => ⟨(h.bd j hj hb).2, fun e => ?_⟩) (fun _ _ => rfl)
  subst e
  obtain ⟨hkl, hk'⟩ := List.getElem?_eq_some_iff.1 hk
  obtain ⟨hjl, hj'⟩ := List.getElem?_eq_some_iff.1 hj
  have hp := List.pairwise_iff_getElem.1 h.sep
  rcases Nat.lt_or_gt_of_ne hne with h1 | h1
  · have := hp k j hkl hjl h1
    rw [hk', hj'] at this
    exact this b rfl hb
  · have := hp j k hjl hkl h1
    rw [hk', hj'] at this
    exact this b hb rfl
/-- Old octets, beside a block that is new. -/
theorem St.bx3 (h : St No w0 M w) (k : Nat) {cs : Array Value} {t : TypeId} (hk : M[k]? = some (blk bs cs t)) (hx : BA w0 v xs) : BX bs w v xs :=
  RB.imp hx (fun b hb => ⟨Nat.lt_of_lt_of_le hb h.frm.size, fun e => by
    subst e
    have h1 := (h.bd k hk (show (blk b cs t).fp b from rfl)).1
    rcases h1 with h1 | h1
    · have : b < w0.heap.size := hb
      omega
    · exact h1⟩) (fun b hb => h.frm.block b hb (fun h => h))
theorem BX.ba (h : BX bs w v xs) : BA w v xs := RB.imp h (fun b hb => hb.1) (fun _ _ => rfl)
end

section
variable {P : Program} {w : World}
/-- An error against nil. -/
theorem err_neq_nil {t : TypeId} {x : Operand} {c : Value} (h : P.underlying t = some (.interface (P.methodsAt t))) : (do eqGuard .neq t x (.const c) .nilIface .nilIface; binOp .neq t .nilIface .nilIface).run P w = .ok (.bool false) w := by
  have h1 : (eqGuard .neq t x (.const c) .nilIface .nilIface).run P w = .ok () w := by unfold eqGuard; cases x <;> rfl
  simp only [Sem.run_bind, h1, Result.andThen, run_neq_nil_nil w t h]
theorem err_eql_nil {t : TypeId} {x : Operand} {c : Value} (h : P.underlying t = some (.interface (P.methodsAt t))) : (do eqGuard .eql t x (.const c) .nilIface .nilIface; binOp .eql t .nilIface .nilIface).run P w = .ok (.bool true) w := by
  have h1 : (eqGuard .eql t x (.const c) .nilIface .nilIface).run P w = .ok () w := by unfold eqGuard; cases x <;> rfl
  simp only [Sem.run_bind, h1, Result.andThen, run_eql_nil_nil w t h]
theorem err_neq {t : TypeId} {x y : Operand} {u : TypeId} {v : Value} (h : P.underlying t = some (.interface (P.methodsAt t))) : (do eqGuard .neq t x y (.iface u v) .nilIface; binOp .neq t (.iface u v) .nilIface).run P w = .ok (.bool true) w := by
  have h1 : (eqGuard .neq t x y (.iface u v) .nilIface).run P w = .ok () w := by unfold eqGuard; rfl
  simp only [Sem.run_bind, h1, Result.andThen, run_neq_held_nil w t u v h]
theorem err_eql {t : TypeId} {x y : Operand} {u : TypeId} {v : Value} (h : P.underlying t = some (.interface (P.methodsAt t))) : (do eqGuard .eql t x y (.iface u v) .nilIface; binOp .eql t (.iface u v) .nilIface).run P w = .ok (.bool false) w := by
  have h1 : (eqGuard .eql t x y (.iface u v) .nilIface).run P w = .ok () w := by unfold eqGuard; rfl
  simp only [Sem.run_bind, h1, Result.andThen, run_eql_held_nil w t u v h]
theorem shl_nat_u64 {t : TypeId} {kk : IntKind} (a j : Nat) (hj : j ≤ 64) (h : a * 2 ^ j < 18446744073709551616) : (binOp .shl t (.int .u64 (a : Int)) (.int kk (j : Int))).run P w = .ok (.int .u64 ((a * 2 ^ j : Nat) : Int)) w := by
  have h0 : ¬ ((j : Int) < 0) := by omega
  show Sem.run P (Op.shift .shl .u64 (a : Int) kk (j : Int)) w = _
  unfold Op.shift
  rw [if_neg h0]
  show Result.ok (Value.int .u64 (IntKind.u64.wrap ((a : Int) * 2 ^ min (j : Int).toNat 64))) w = _
  rw [show min (j : Int).toNat 64 = j by omega]
  rw [show (a : Int) * 2 ^ j = ((a * 2 ^ j : Nat) : Int) by push_cast; rfl, IntWalk.u64_in _ (by omega)]
end
end Go.Proofs.YtiminmnmeknioaaDoor
/- Rows of whole numbers and of slices, of one's own; the pieces behind them. -/
set_option linter.unusedVariables false
set_option linter.unusedSimpArgs false
namespace Go.Proofs.YtiminmnmeknioaaDoor
open Go Go.RowKit

abbrev vi (i : Int) : Value := .int .i64 i
section
variable {mu : Nat → Prop} {w w0 : World} {e : TypeId} {v : Value} {n : Nat} {M : List Res}
theorem RI.nil {fp : Nat → Prop} : RI fp w (.slice none 0 0) [] := RSl.nil 0 (by omega) none
theorem RI.of_row {vs : List Value} {xs : List Int} (h : w.ownsRow 0 e 1 v n vs) (hx : vs = xs.map vi) : RI (fun b => v.ownBlock = some b) w v xs := by
  subst hx
  have hl : xs.length = n := by have := h.1; simp at this; omega
  rcases h.2 with ⟨rfl, rfl⟩ | ⟨g, cap, cur, rfl, _, hh, h1, h2, h3, h4⟩
  · obtain rfl : xs = [] := List.eq_nil_of_length_eq_zero hl
    exact RI.nil
  · refine RI.mk hl h1 (by simpa [maxLen] using h2) fun hn => ⟨g, 0, rfl, rfl, fun j x hx => ?_⟩
    have := h.cells (g := g) rfl j (vi x) (by simp [hx])
    rwa [Addr.add_mid] at this
theorem row_ri {vs : List Value} {xs : List Int} (h : St mu w0 (rowR e 1 v n vs :: M) w) (hx : vs = xs.map vi) : St mu w0 (riR (fun b => v.ownBlock = some b) v xs :: M) w :=
  h.at_ (RI.of_row (h.get 0 rfl) hx) (fun _ hb => hb)
/-- The form of a row's slice. -/
theorem row_form {sz : Nat} {vs : List Value} (h : w.ownsRow 0 e sz v n vs) : ∃ A c, v = .slice A n c ∧ n ≤ c ∧ c ≤ 9223372036854775807 := by
  rcases h.2 with ⟨rfl, rfl⟩ | ⟨g, cap, cur, rfl, _, hh, h1, h2, h3, h4⟩
  · exact ⟨none, 0, rfl, Nat.le_refl _, by omega⟩
  · exact ⟨_, cap, rfl, h1, by simpa [maxLen] using h2⟩
end
/-- What slices of octets hold. -/
def mR (fp : Nat → Prop) (vs : List Value) (xss : List (List UInt8)) : Res :=
  ⟨fp, fun w => vs.length = xss.length ∧ ∀ (i : Nat) u x, vs[i]? = some u → xss[i]? = some x → RB fp w u x, fun w w' hc h => ⟨h.1, fun i u x hu hx => RB.imp (h.2 i u x hu hx) (fun _ h => h) hc⟩⟩
section
variable {mu : Nat → Prop} {w w0 : World} {e : TypeId} {v u : Value} {n : Nat} {M : List Res} {fp fp1 : Nat → Prop} {vs : List Value} {xss : List (List UInt8)} {x : List UInt8}
theorem St.mnil (h : St mu w0 M w) : St mu w0 (mR (fun _ => False) [] [] :: M) w :=
  h.grow (Below.refl _ _) ⟨rfl, fun i u x hu _ => by simp at hu⟩ (fun b hb => hb.elim)
theorem St.msnoc (h : St mu w0 (rbR fp1 u x :: mR fp vs xss :: M) w) : St mu w0 (mR (fun b => fp b ∨ fp1 b) (vs ++ [u]) (xss ++ [x]) :: M) w := by
  have h1 : RB fp1 w u x := h.get 0 rfl
  have h2 : (mR fp vs xss).hold w := h.get 1 rfl
  refine h.merge ⟨by simp [h2.1], fun i u' x' hu hx => ?_⟩ (fun b hb => hb.symm)
  rcases Nat.lt_trichotomy i vs.length with hi | hi | hi
  · rw [List.getElem?_append_left hi] at hu
    rw [List.getElem?_append_left (by rw [← h2.1]; exact hi)] at hx
    exact RB.imp (h2.2 i u' x' hu hx) (fun _ h => .inl h) (fun _ _ => rfl)
  · subst hi
    rw [List.getElem?_append_right (Nat.le_refl _)] at hu
    rw [h2.1, List.getElem?_append_right (Nat.le_refl _)] at hx
    simp at hu hx
    subst hu hx
    exact RB.imp h1 (fun _ h => .inr h) (fun _ _ => rfl)
  · rw [List.getElem?_append_right (by omega), List.getElem?_eq_none (by simp; omega)] at hu
    cases hu
theorem St.rbs_of (h : St mu w0 (rowR e 1 v n vs :: mR fp vs xss :: M) w) : St mu w0 (rbsR (fun b => v.ownBlock = some b ∨ fp b) v xss :: M) w := by
  have h1 : w.ownsRow 0 e 1 v n vs := h.get 0 rfl
  have h2 : (mR fp vs xss).hold w := h.get 1 rfl
  have hl : vs.length = n := by have := h1.1; omega
  have hl2 : vs.length = xss.length := h2.1
  refine h.merge ?_ (fun b hb => hb)
  show RBS _ w v xss
  rcases h1.2 with ⟨rfl, rfl⟩ | ⟨g, cap, cur, rfl, _, hh, e1, e2, e3, e4⟩
  · obtain rfl : xss = [] := List.eq_nil_of_length_eq_zero (by omega)
    exact RBS.nil
  · refine RBS.mk (by omega) e1 (by simpa [maxLen] using e2) fun hn => ⟨g, 0, rfl, .inl rfl, fun j xs hx => ?_⟩
    have hj : j < xss.length := (List.getElem?_eq_some_iff.1 hx).1
    have hu : vs[j]? = some vs[j] := List.getElem?_eq_getElem (by omega)
    refine ⟨vs[j], ?_, RB.imp (h2.2 j _ xs hu hx) (fun _ h => .inr h) (fun _ _ => rfl)⟩
    have := h1.cells (g := g) rfl j vs[j] hu
    rwa [Addr.add_mid] at this
end
section
variable {P : Program} {w : World} {t : TypeId}
theorem neg_i64 (n : Int) (h : -9223372036854775807 ≤ n ∧ n ≤ 9223372036854775807) : (Op.unary .neg (.int .i64 n)).run P w = .ok (.int .i64 (-n)) w := by
  show Result.ok (Value.int .i64 (IntKind.i64.wrap (0 - n))) w = _
  rw [IntWalk.i64_in _ (by omega), Int.zero_sub]
end
end Go.Proofs.YtiminmnmeknioaaDoor
/- Strings' octets; calls that answer a part of what was handed in. -/
set_option linter.unusedVariables false
set_option linter.unusedSimpArgs false
namespace Go.Proofs.YtiminmnmeknioaaDoor
open Go Go.RowKit
/-- A call that answers a value of which Φ holds, and may make memory. -/
def RetV (w : World) (Φ : Value → Prop) (e : Ending) (w' : World) : Prop := ∃ v, e = .returned v ∧ Below w.heap.size w w' ∧ Φ v
theorem St.retV {w w' : World} {M : List Res} (h : St No w M w') {v : Value} {Φ : Value → Prop} (hv : Φ v) : RetV w Φ (.returned v) w' := ⟨v, rfl, h.below, hv⟩
section
variable {X : Cfg} {ops : Array Oper} {rest : List Oper} {o : Oper} {ds : List Deferred} {L : Env} {M : List Res} {K : Kont} {d : Nat} {S : World → Prop}
theorem J.idxv {t : TypeId} {x y : Operand} {u1 u2 v : Value} (ho : o.op = .index t x y) (hg : o.guard = none) (hd : o.dst = some d) (hN : Nat.blt d X.N = true) (hx : evl L x = some u1) (hy : evl L y = some u2) (hv : ∀ w, (Instr.index t u1 u2).run X.P w = .ok v w)
    (h : J X ops rest ds ((d, v) :: L) M K) : J X ops (o :: rest) ds L M K :=
  J.val hg hd hN (by simp [ho]) (fun a w ha hw => by
    unfold execOp; rw [ho]; simp only [ha.eval hx, ha.eval hy]
    simp only [Sem.run_bind, hv, Result.andThen, Sem.run_pure]) h
theorem R.idxv {t : TypeId} {x y : Operand} {u1 u2 v : Value} (ho : o.op = .index t x y) (hx : evl L x = some u1) (hy : evl L y = some u2) (hv : ∀ w, (Instr.index t u1 u2).run X.P w = .ok v w) : RunV X o ds L S v :=
  (fun a w ha hw => by
    unfold execOp; rw [ho]; simp only [ha.eval hx, ha.eval hy]
    simp only [Sem.run_bind, hv, Result.andThen, Sem.run_pure])
theorem R.ldw (k : Nat) {t t' : TypeId} {x : Operand} {b : Nat} {cs : Array Value} (ho : o.op = .load t x) (hx : evl L x = some (.pointer (some ⟨b, 0, none⟩))) (hA : ∀ w, (isAgg t).run X.P w = .ok true w) (hk : M[k]? = some (blk b cs t')) (hz : ∀ w, (sizeOf t).run X.P w = .ok cs.size w) :
    RunV X o ds L (fun w => St X.mu X.w0 M w) (.agg cs) := by
  have := R.ldn (X := X) (o := o) (ds := ds) (L := L) (S := fun w => St X.mu X.w0 M w) (cs := cs.toList) ho hx hA (by simpa using hz) (fun w h j u hu => by rw [Addr.add_mid]; exact cellO h k hk (by simpa using hu))
  simpa using this
theorem J.callv {f : FuncId} {args : Array Operand} {ts : Array TypeId} {vs : List Value} {Φ : Value → Prop} (ho : o.op = .call { callee := .value (.func f), args := args, argTypes := ts }) (hg : o.guard = none) (hd : o.dst = some d) (hN : Nat.blt d X.N = true) (hvs : args.toList.mapM (evl L) = some vs) (hcall : ∀ args w, (callFunc f args).run X.P w = .ok (.enter f args) w)
    (hc : ∀ w, St X.mu X.w0 M w → Calls X.P f vs.toArray w (RetV w Φ)) (h : ∀ v, Φ v → J X ops rest ds ((d, v) :: L) M K) : J X ops (o :: rest) ds L M K := by
  refine J.call ho hg hd hN hvs hcall hc ?_
  rintro w e w' hw ⟨v, rfl, hb, hΦ⟩
  exact ⟨v, M, rfl, hw.grow0 hb, h v hΦ⟩
end
end Go.Proofs.YtiminmnmeknioaaDoor
/- What memory tells to be there, named. -/
set_option linter.unusedVariables false
set_option linter.unusedSimpArgs false
namespace Go.Proofs.YtiminmnmeknioaaDoor
open Go Go.RowKit
section
variable {X : Cfg} {ops : Array Oper} {l : List Oper} {ds : List Deferred} {L : Env} {M : List Res} {nK rK K : Kont} {xs : List (Nat × Kont)} {c : Code} {α : Type}
theorem C.ex (M' : α → List Res) (p : α → Prop) (hM : ∀ w, St X.mu X.w0 M w → ∃ x, p x ∧ St X.mu X.w0 (M' x) w) (h : ∀ x, p x → C X c ds L (M' x) nK xs rK) : C X c ds L M nK xs rK := fun a w ha hw => by
  obtain ⟨x, hp, hx⟩ := hM w hw
  exact h x hp a w ha hx
theorem J.ex (M' : α → List Res) (p : α → Prop) (hM : ∀ w, St X.mu X.w0 M w → ∃ x, p x ∧ St X.mu X.w0 (M' x) w) (h : ∀ x, p x → J X ops l ds L (M' x) K) : J X ops l ds L M K := fun Q hQ a w ha hw => by
  obtain ⟨x, hp, hx⟩ := hM w hw
  exact h x hp Q hQ a w ha hx
end
/-- A cell that holds octets, and these. -/
def cellB (fp : Nat → Prop) (b o : Nat) (u : Value) (x : List UInt8) : Res :=
  ⟨fp, fun w => fp b ∧ w.cell? ⟨b, o, none⟩ = some u ∧ RB fp w u x, fun w w' hc h => ⟨h.1, by
    have := hc b h.1
    have h2 := h.2.1
    simp only [World.cell?] at h2 ⊢
    rw [this]; exact h2, RB.imp h.2.2 (fun _ h => h) hc⟩⟩
section
variable {mu : Nat → Prop} {w0 w : World} {M : List Res} {fp : Nat → Prop} {v u : Value} {x : List UInt8}
theorem St.one_text (h : St mu w0 (rbsR fp v [x] :: M) w) : ∃ q : Nat × Nat × Option Addr × Nat × Nat, (v = .slice (some ⟨q.1, q.2.1, none⟩) 1 q.2.2.2.1 ∧ x.length ≤ 9223372036854775807) ∧ St mu w0 (cellB fp q.1 q.2.1 (.slice q.2.2.1 x.length q.2.2.2.2) x :: M) w := by
  have h1 : RBS fp w v [x] := h.get 0 rfl
  obtain ⟨A, c, rfl, _, _, h3⟩ := h1.form
  obtain ⟨b, o, rfl, hb, hc⟩ := h3 (by simp)
  obtain ⟨u, hu, hr⟩ := hc 0 x rfl
  obtain ⟨A2, c2, rfl, h4, h5, _⟩ := hr.form
  exact ⟨(b, o, A2, c, c2), ⟨rfl, by omega⟩, h.at_ ⟨hb, by simpa using hu, hr⟩ (fun b h => h)⟩
theorem RI.at_ {b o n c j : Nat} {xs : List Int} {i : Int} (h : RI fp w (.slice (some ⟨b, o, none⟩) n c) xs) (hx : xs[j]? = some i) : w.cell? ⟨b, o + j, none⟩ = some (vi i) := by
  obtain ⟨A', c', hv, _, _, h3⟩ := h.form
  injection hv with e1 e2 e3
  subst e2 e3
  obtain ⟨b', o', e, _, hc⟩ := h3 (by have := (List.getElem?_eq_some_iff.1 hx).1; omega)
  rw [← e1] at e
  injection e with e
  injection e with e4 e5
  subst e4 e5
  exact hc j i hx
theorem cellB_rb (h : St mu w0 M w) {b o : Nat} (k : Nat) (hk : M[k]? = some (cellB fp b o u x)) : St mu w0 (rbR fp u x :: M.eraseIdx k) w := (h.front k hk).at_ (show RB fp w u x from ((h.get k hk : (cellB fp b o u x).hold w)).2.2) (fun b h => h)
end
end Go.Proofs.YtiminmnmeknioaaDoor
/- Slices of writes: a sector's number and its octets. -/
set_option linter.unusedVariables false
set_option linter.unusedSimpArgs false
namespace Go.Proofs.YtiminmnmeknioaaDoor
open Go Go.RowKit

abbrev Wr := Int × List UInt8
def isW (fp : Nat → Prop) (w : World) (x : Wr) (cs : List Value) : Prop := ∃ v, cs = [vi x.1, v] ∧ RB fp w v x.2
def RWS (fp : Nat → Prop) (w : World) (v : Value) (xs : List Wr) : Prop := RSl 2 (isW fp) fp w v xs
abbrev WSA (w : World) (v : Value) (xs : List Wr) : Prop := RWS (Old w) w v xs
section
variable {mu fp fp' : Nat → Prop} {w w' w0 : World} {v : Value} {xs : List Wr} {M : List Res}
theorem RWS.imp (h : RWS fp w v xs) (hf : ∀ b, fp b → fp' b) (hc : ∀ b, fp b → w'.heap[b]? = w.heap[b]?) : RWS fp' w' v xs :=
  RSl.imp h hf hc fun _ _ ⟨v, h1, h2⟩ => ⟨v, h1, h2.imp hf hc⟩
theorem RWS.later (h : WSA w v xs) (hb : Below w.heap.size w w') : WSA w' v xs := RWS.imp h (fun b hb' => Nat.lt_of_lt_of_le hb' hb.size) (fun b hb' => hb.block b hb')
theorem RWS.form (h : RWS fp w v xs) : ∃ A c, v = .slice A xs.length c ∧ xs.length ≤ c ∧ c ≤ 9223372036854775807 ∧ (0 < xs.length → ∃ b o, A = some ⟨b, o, none⟩ ∧ fp b ∧ ∀ j x, xs[j]? = some x → ∃ u, w.cell? ⟨b, o + j * 2, none⟩ = some (vi x.1) ∧ w.cell? ⟨b, o + j * 2 + 1, none⟩ = some u ∧ RB fp w u x.2) := by
  obtain ⟨A, n, c, rfl, rfl, h1, h2, h3⟩ := h
  refine ⟨A, c, rfl, h1, h2, fun hn => ?_⟩
  obtain ⟨b, o, hA, hb, hc⟩ := h3 hn
  refine ⟨b, o, hA, hb, fun j x hx => ?_⟩
  obtain ⟨cs, _, ⟨v, rfl, hv⟩, hcs⟩ := hc j x hx
  have h0 := hcs 0 _ rfl
  have h1 := hcs 1 _ rfl
  exact ⟨v, by simpa using h0, h1, hv⟩
theorem RWS.mk {A : Option Addr} {n c : Nat} (hl : xs.length = n) (h1 : n ≤ c) (h2 : c ≤ 9223372036854775807) (h3 : 0 < n → ∃ b o, A = some ⟨b, o, none⟩ ∧ fp b ∧ ∀ j x, xs[j]? = some x → ∃ u, w.cell? ⟨b, o + j * 2, none⟩ = some (vi x.1) ∧ w.cell? ⟨b, o + j * 2 + 1, none⟩ = some u ∧ RB fp w u x.2) : RWS fp w (.slice A n c) xs := by
  refine ⟨A, n, c, rfl, hl, h1, h2, fun hn => ?_⟩
  obtain ⟨b, o, hA, hb, hc⟩ := h3 hn
  refine ⟨b, o, hA, hb, fun j x hx => ?_⟩
  obtain ⟨u, hu, hu1, hr⟩ := hc j x hx
  refine ⟨[vi x.1, u], rfl, ⟨u, rfl, hr⟩, fun i u' hu' => ?_⟩
  match i, hu' with
  | 0, hu' => simp only [List.getElem?_cons_zero, Option.some.injEq] at hu'; subst hu'; simpa using hu
  | 1, hu' => simp only [List.getElem?_cons_succ, List.getElem?_cons_zero, Option.some.injEq] at hu'; subst hu'; exact hu1
  | i + 2, hu' => simp at hu'
def rwsR (fp : Nat → Prop) (v : Value) (xs : List Wr) : Res := ⟨fp, fun w => RWS fp w v xs, fun w w' hc h => RWS.imp h (fun _ h => h) hc⟩
theorem St.rws (h : St mu w0 M w) (k : Nat) (hk : M[k]? = some (rwsR fp v xs)) : WSA w v xs := RWS.imp (h.get k hk) (fun b hb => (h.bd k hk hb).2) (fun _ _ => rfl)
theorem St.wsa (h : St No w0 M w) (hx : WSA w0 v xs) : WSA w v xs := hx.later h.below
theorem RWS.nil : RWS fp w (.slice none 0 0) [] := RSl.nil 0 (by omega) none
end
/-- A disk. -/
structure Dk where
  secs : List (List UInt8)
  cache : List Wr
end Go.Proofs.YtiminmnmeknioaaDoor
/- Calls of function values. -/
set_option linter.unusedVariables false
set_option linter.unusedSimpArgs false
namespace Go.Proofs.YtiminmnmeknioaaDoor
open Go Go.RowKit
section
variable {X : Cfg} {ops : Array Oper} {rest : List Oper} {o : Oper} {ds : List Deferred} {L : Env} {M : List Res} {K : Kont} {d : Nat}
theorem J.mkfn2 {fn : Fn} {first captured : Array Operand} {vs1 vs2 : List Value} (ho : o.op = .makeFunc fn first captured) (hg : o.guard = none) (hd : o.dst = some d) (hN : Nat.blt d X.N = true) (h1 : first.toList.mapM (evl L) = some vs1) (h2 : captured.toList.mapM (evl L) = some vs2)
    (h : J X ops rest ds ((d, .func fn vs1.toArray vs2.toArray) :: L) M K) : J X ops (o :: rest) ds L M K := by
  have key : ∀ (a : Act), Has X.N ds L a → ∀ (l : List Operand) (us : List Value), l.mapM (evl L) = some us → l.map a.eval = us := by
    intro a ha l
    induction l with
    | nil => intro us h; simp at h; simp [h]
    | cons y l ih =>
      intro us h
      simp only [List.mapM_cons, Option.bind_eq_bind, Option.bind_eq_some_iff, Option.pure_def] at h
      obtain ⟨u, hu, us', hus, h3⟩ := h
      injection h3 with h3
      subst h3
      simp [ha.eval hu, ih us' hus]
  exact J.val hg hd hN (by simp [ho]) (fun a w ha hw => by
    have e1 : first.map a.eval = vs1.toArray := by rw [← Array.toList_inj]; simpa using key a ha _ _ h1
    have e2 : captured.map a.eval = vs2.toArray := by rw [← Array.toList_inj]; simpa using key a ha _ _ h2
    unfold execOp; rw [ho]; simp only [e1, e2]; rfl) h
theorem J.callf {f : FuncId} {x : Operand} {args : Array Operand} {ts : Array TypeId} {fst cap : Array Value} {vs : List Value} {R : World → Ending → World → Prop} (ho : o.op = .call { callee := .value x, args := args, argTypes := ts }) (hg : o.guard = none) (hd : o.dst = some d) (hN : Nat.blt d X.N = true) (hx : evl L x = some (.func (.func f) fst cap)) (hvs : args.toList.mapM (evl L) = some vs) (hcall : ∀ args w, (callFunc f args).run X.P w = .ok (.enter f args) w)
    (hc : ∀ w, St X.mu X.w0 M w → Calls X.P f (fst.toList ++ vs ++ cap.toList).toArray w (R w)) (h : ∀ w e w', St X.mu X.w0 M w → R w e w' → ∃ v M', e = .returned v ∧ St X.mu X.w0 M' w' ∧ J X ops rest ds ((d, v) :: L) M' K) : J X ops (o :: rest) ds L M K := by
  intro Q hQ a w ha hw
  have key : ∀ (l : List Operand) (us : List Value), l.mapM (evl L) = some us → l.map a.eval = us := by
    intro l
    induction l with
    | nil => intro us h; simp at h; simp [h]
    | cons y l ih =>
      intro us h
      simp only [List.mapM_cons, Option.bind_eq_bind, Option.bind_eq_some_iff, Option.pure_def] at h
      obtain ⟨u, hu, us', hus, h3⟩ := h
      injection h3 with h3
      subst h3
      simp [ha.eval hu, ih us' hus]
  have hm : args.map a.eval = vs.toArray := by
    rw [← Array.toList_inj]; simpa using key _ _ hvs
  have hfa : (fst.toList ++ vs ++ cap.toList).toArray = fst ++ vs.toArray ++ cap := by simp
  refine wpl_enter (f := f) (args := fst ++ vs.toArray ++ cap) (w' := w) hg (by simp [ho]) ?_ ((hfa ▸ hc w hw).mono fun e w' hR => ?_)
  · unfold execOp; rw [ho]
    have : Array.map a.eval args = vs.toArray := hm
    simp only [resolve, ha.eval hx, this, Deferred.ofValue, Sem.run_bind, Sem.run_pure, Result.andThen, invoke, hcall]
  · obtain ⟨v, M', rfl, h1, h2⟩ := h w e w' hw hR
    exact ⟨v, rfl, h2 Q hQ _ _ (ha.putd hd hN v) h1⟩
theorem J.callf0 {f : FuncId} {x : Operand} {args : Array Operand} {ts : Array TypeId} {fst cap : Array Value} {vs : List Value} {v : Value} (ho : o.op = .call { callee := .value x, args := args, argTypes := ts }) (hg : o.guard = none) (hd : o.dst = some d) (hN : Nat.blt d X.N = true) (hx : evl L x = some (.func (.func f) fst cap)) (hvs : args.toList.mapM (evl L) = some vs) (hcall : ∀ args w, (callFunc f args).run X.P w = .ok (.enter f args) w)
    (hc : ∀ w, St X.mu X.w0 M w → Calls X.P f (fst.toList ++ vs ++ cap.toList).toArray w (Ret0 w v)) (h : J X ops rest ds ((d, v) :: L) M K) : J X ops (o :: rest) ds L M K := by
  refine J.callf ho hg hd hN hx hvs hcall hc ?_
  rintro w e w' hw ⟨rfl, hb⟩
  exact ⟨v, M, rfl, hw.grow0 hb, h⟩
end
end Go.Proofs.YtiminmnmeknioaaDoor
/- Slices of octets, each in a block of its own. -/
set_option linter.unusedVariables false
set_option linter.unusedSimpArgs false
namespace Go.Proofs.YtiminmnmeknioaaDoor
open Go Go.RowKit

/-- Slices of octets, each a row of its own, their blocks apart. -/
def gR (e : TypeId) (vs : List Value) (xss : List (List UInt8)) : Res :=
  ⟨fun b => ∃ (i : Nat) (u : Value), vs[i]? = some u ∧ u.ownBlock = some b,
   fun w => vs.length = xss.length ∧ (∀ (i : Nat) (u : Value) (x : List UInt8), vs[i]? = some u → xss[i]? = some x → w.ownsRow 0 e 1 u x.length (x.map vu8)) ∧ (∀ (i j : Nat) (u v : Value) (b : Nat), i < j → vs[i]? = some u → vs[j]? = some v → u.ownBlock = some b → v.ownBlock = some b → False),
   fun w w' hc h => ⟨h.1, fun i u x hu hx => (rowR e 1 u x.length (x.map vu8)).loc w w' (fun b hb => hc b (show ∃ (i : Nat) (u : Value), vs[i]? = some u ∧ u.ownBlock = some b from ⟨i, u, hu, hb⟩)) (h.2.1 i u x hu hx), h.2.2⟩⟩
section
variable {mu : Nat → Prop} {w w0 : World} {e e' : TypeId} {v u : Value} {n : Nat} {M : List Res} {vs : List Value} {xss : List (List UInt8)} {x : List UInt8}
theorem St.gnil (h : St mu w0 M w) (e : TypeId) : St mu w0 (gR e [] [] :: M) w :=
  h.grow (Below.refl _ _) ⟨rfl, fun i u x hu _ => by simp at hu, fun i j u v b _ hu => by simp at hu⟩ (fun b hb => by obtain ⟨i, u, hu, _⟩ := hb; simp at hu)
theorem St.gsnoc (h : St mu w0 (rowR e 1 u x.length (x.map vu8) :: gR e vs xss :: M) w) : St mu w0 (gR e (vs ++ [u]) (xss ++ [x]) :: M) w := by
  have h1 : w.ownsRow 0 e 1 u x.length (x.map vu8) := h.get 0 rfl
  have h2 : (gR e vs xss).hold w := h.get 1 rfl
  have hsep := (List.pairwise_cons.1 h.sep).1 (gR e vs xss) (by simp)
  have hlast : ∀ (i : Nat) (u' : Value), (vs ++ [u])[i]? = some u' → (i < vs.length ∧ vs[i]? = some u') ∨ (i = vs.length ∧ u' = u) := by
    intro i u' hu
    rcases Nat.lt_trichotomy i vs.length with hi | hi | hi
    · rw [List.getElem?_append_left hi] at hu; exact .inl ⟨hi, hu⟩
    · subst hi
      rw [List.getElem?_append_right (Nat.le_refl _)] at hu
      simp at hu
      exact .inr ⟨rfl, hu.symm⟩
    · rw [List.getElem?_append_right (by omega), List.getElem?_eq_none (by simp; omega)] at hu
      cases hu
  refine h.merge ⟨by simp [h2.1], fun i u' x' hu hx => ?_, fun i j u1 u2 b hij hu1 hu2 hb1 hb2 => ?_⟩ (fun b hb => ?_)
  · rcases hlast i u' hu with ⟨hi, hu⟩ | ⟨hi, rfl⟩
    · rw [List.getElem?_append_left (by rw [← h2.1]; exact hi)] at hx
      exact h2.2.1 i u' x' hu hx
    · subst hi
      rw [h2.1, List.getElem?_append_right (Nat.le_refl _)] at hx
      simp at hx
      subst hx
      exact h1
  · rcases hlast i u1 hu1 with ⟨hi, hv1⟩ | ⟨hi, he⟩
    · rcases hlast j u2 hu2 with ⟨hj, hv2⟩ | ⟨hj, he⟩
      · exact h2.2.2 i j u1 u2 b hij hv1 hv2 hb1 hb2
      · subst he
        exact hsep b hb2 ⟨i, u1, hv1, hb1⟩
    · rcases hlast j u2 hu2 with ⟨hj, hv2⟩ | ⟨hj, he⟩
      · omega
      · omega
  · obtain ⟨i, u', hu, hb⟩ := hb
    rcases hlast i u' hu with ⟨hi, hu⟩ | ⟨hi, rfl⟩
    · exact .inr ⟨i, u', hu, hb⟩
    · exact .inl hb
/-- Seen as memory to be read. -/
theorem gR_mR (h : St mu w0 M w) (k : Nat) (hk : M[k]? = some (gR e vs xss)) : (mR (gR e vs xss).fp vs xss).hold w := by
  have h2 : (gR e vs xss).hold w := h.get k hk
  exact ⟨h2.1, fun i u x hu hx => RB.imp (RB.of_row (h2.2.1 i u x hu hx) rfl) (fun b hb => ⟨i, u, hu, hb⟩) (fun _ _ => rfl)⟩
end
end Go.Proofs.YtiminmnmeknioaaDoor
/- One item of a row of one's own is set. -/
set_option linter.unusedVariables false
set_option linter.unusedSimpArgs false
namespace Go.Proofs.YtiminmnmeknioaaDoor
open Go Go.RowKit
section
variable {mu : Nat → Prop} {w0 w : World} {M : List Res} {e : TypeId} {sz n c : Nat} {A : Option Addr} {vs : List Value}
/-- A row that is not empty, as its block. -/
theorem St.row_blk (h : St mu w0 (rowR e sz (.slice A n c) n vs :: M) w) (hn : 0 < n) : ∃ q : Nat × Array Value, (A = some ⟨q.1, 0, none⟩ ∧ n ≤ c ∧ c ≤ 9223372036854775807 ∧ q.2.size = c * sz ∧ q.2.toList.take (n * sz) = vs) ∧ St mu w0 (blk q.1 q.2 e :: M) w := by
  have h1 : w.ownsRow 0 e sz (.slice A n c) n vs := h.get 0 rfl
  rcases h1.2 with ⟨e1, e2⟩ | ⟨g, cap, cur, hv, _, hh, h2, h3, h4, h5⟩
  · omega
  · injection hv with hA _ hc
    subst hA hc
    exact ⟨(g, cur), ⟨rfl, h2, by simpa [maxLen] using h3, h4, h5⟩, h.at_ hh (fun b hb => by
      have : b = g := hb
      subst this
      rfl)⟩
/-- Its block, as a row again. -/
theorem St.blk_row2 {b : Nat} {cur : Array Value} (h : St mu w0 (blk b cur e :: M) w) (h1 : n ≤ c) (h2 : c ≤ 9223372036854775807) (h3 : cur.size = c * sz) (h4 : cur.toList.take (n * sz) = vs) : St mu w0 (rowR e sz (.slice (some ⟨b, 0, none⟩) n c) n vs :: M) w := by
  have := blk_rowc (sz := sz) h h1 h2 h3
  rw [h4] at this
  exact this
end
end Go.Proofs.YtiminmnmeknioaaDoor
/- Ranges over functions: the loop's record and the mark are pieces of memory; a round is walked in the frame of the function that holds the loop, its memory told in the same words. -/
set_option linter.unusedVariables false
set_option linter.unusedSimpArgs false
namespace Go.Proofs.YtiminmnmeknioaaDoor
open Go Go.RowKit

abbrev yld (l : Nat) : Value := .func (.yield l) #[] #[]
def mark (k : Nat) : Deferred := { target := .collected k, args := #[] }
/-- A loop's record in a state, with a jump that waits. -/
def lp (st : LoopState) (pe : Option Code) (r : Loop) : Obj := .loop { r with state := st, pending := pe }
/-- The slots a round begins with. -/
def rtmps (r : Loop) (vs : List Value) : Array Value := (r.params.zip vs.toArray).foldl (fun tmps (t, a) => tmps.setIfInBounds t a) r.tmps

section
variable {P : Program} {ro : Option Nat} {n : Nat} {ops : Array Oper} {rest : List Oper} {o : Oper} {Q : Exit → Act → World → Prop} {a : Act} {w w' : World}
theorem wpl_round {l : Nat} {f : FuncId} {tmps : Array Value} {asg body : Code} (hg : o.guard = none) (hnd : ∀ c, o.op ≠ .defer c) (hr : (execOp a.eval o).run P w = .ok (.round l f tmps asg body) w')
    (h : RoundIn (FW ro) (n - 1) P l f tmps asg body w' fun e w'' => ∃ v, e = .returned v ∧ wpListIn (FW ro) n P ops Q rest (a.put o.dst v) w'') : wpListIn (FW ro) n P ops Q (o :: rest) a w := by
  refine wpListIn_plain hg fun K hK => ⟨fun f _ => trivial, ?_⟩
  rw [Oper.semAt_eq _ _ _ hnd, hr]
  refine ⟨fun h => by simp [FW, Fence.wide] at h, ?_⟩
  refine RoundIn.mono h ?_
  rintro e w'' ⟨v, rfl, h3⟩
  exact hK _ _ h3
end

section
variable {mu : Nat → Prop} {w0 w : World} {M : List Res} {l : Nat} {o : Obj}
theorem St.putO (h : St mu w0 M w) (k : Nat) (hk : M[k]? = some (obj l o)) (o' : Obj) : St mu w0 (M.set k (obj l o')) (w.putObj l o') :=
  h.setObj k hk rfl rfl rfl World.putObj_size (fun j hj => World.putObj_heap_other hj) (World.putObj_heap_same (Array.getElem?_eq_some_iff.1 (h.get k hk : w.heap[l]? = some o)).1)
end

/-- Some pieces, in another order. -/
theorem St.ord {mu : Nat → Prop} {w0 w : World} {M : List Res} (h : St mu w0 M w) (ks : List Nat) (hn : ks.Nodup) : St mu w0 (ks.filterMap (fun k => M[k]?)) w := by
  refine ⟨h.frm, fun r hr => ?_, fun r hr => ?_, ?_⟩
  · obtain ⟨k, _, hk⟩ := List.mem_filterMap.1 hr
    exact h.get k hk
  · obtain ⟨k, _, hk⟩ := List.mem_filterMap.1 hr
    exact fun b hb => h.bd k hk hb
  · rw [List.pairwise_filterMap]
    refine List.Pairwise.imp ?_ hn
    intro i j hij r hr s hs b h1 h2
    have hp := List.pairwise_iff_getElem.1 h.sep
    obtain ⟨hil, hi⟩ := List.getElem?_eq_some_iff.1 hr
    obtain ⟨hjl, hj⟩ := List.getElem?_eq_some_iff.1 hs
    rcases Nat.lt_or_gt_of_ne hij with h3 | h3
    · have := hp i j hil hjl h3
      rw [hi, hj] at this
      exact this b h1 h2
    · have := hp j i hjl hil h3
      rw [hi, hj] at this
      exact this b h2 h1

/-- A call of yield: a round. -/
theorem J.yield {X : Cfg} {ops : Array Oper} {rest : List Oper} {o : Oper} {ds : List Deferred} {L : Env} {M : List Res} {K : Kont} {d : Nat} (k : Nat) {l : Nat} {r : Loop} {x : Operand} {args : Array Operand} {ts : Array TypeId} {vs : List Value} {Φ : Bool → List Res → Prop}
    (ho : o.op = .call { callee := .value x, args := args, argTypes := ts }) (hg : o.guard = none) (hd : o.dst = some d) (hN : Nat.blt d X.N = true) (hx : evl L x = some (yld l)) (hvs : args.toList.mapM (evl L) = some vs) (hk : M[k]? = some (obj l (lp .ready none r))) (hps : vs.length = r.params.size)
    (hround : ∀ w, St X.mu X.w0 M w → RoundIn (FW X.ro) (X.n - 1) X.P l r.fn (rtmps r vs) r.assign r.body w (fun e w' => ∃ b, e = .returned (.bool b) ∧ ∃ M', St X.mu X.w0 M' w' ∧ Φ b M'))
    (h : ∀ b M', Φ b M' → J X ops rest ds ((d, .bool b) :: L) M' K) : J X ops (o :: rest) ds L M K := by
  intro Q hQ a w ha hw
  have key : ∀ (l : List Operand) (us : List Value), l.mapM (evl L) = some us → l.map a.eval = us := by
    intro l
    induction l with
    | nil => intro us h; simp at h; simp [h]
    | cons y l ih =>
      intro us h
      simp only [List.mapM_cons, Option.bind_eq_bind, Option.bind_eq_some_iff, Option.pure_def] at h
      obtain ⟨u, hu, us', hus, h3⟩ := h
      injection h3 with h3
      subst h3
      simp [ha.eval hu, ih us' hus]
  have hm : args.map a.eval = vs.toArray := by
    rw [← Array.toList_inj]; simpa using key _ _ hvs
  have hy := run_yield (P := X.P) (args := vs.toArray) (hw.get k hk : w.heap[l]? = some (lp .ready none r)) (by simpa using hps)
  refine wpl_round (w' := w) hg (by simp [ho]) ?_ ((hround w hw).mono ?_)
  · unfold execOp; rw [ho]
    have : Array.map a.eval args = vs.toArray := hm
    simp only [resolve, ha.eval hx, this, Deferred.ofValue, Sem.run_bind, Sem.run_pure, Result.andThen, invoke, Array.empty_append]
    exact hy
  · rintro e w' ⟨b, rfl, M', h1, h2⟩
    exact ⟨_, rfl, h b M' h2 Q hQ _ _ (ha.putd hd hN _) h1⟩

/-- How a round ends, by a jump c. -/
def rnd (l : Nat) (r : Loop) (Φ : Bool → List Res → Prop) (c : Option Code) : Kont := fun _ _ M => ∃ k : Nat, M[k]? = some (obj l (lp .busy none r)) ∧ Φ c.isNone (M.set k (obj l (lp (if c.isNone then .ready else .done) c r)))
/-- A round, from the walks of its assignments and its body. -/
theorem round_C {P : Program} {n n' N : Nat} {mu : Nat → Prop} {w0 w : World} {l : Nat} {r : Loop} {vs : List Value} {M : List Res} {L : Env} {Φ : Bool → List Res → Prop} (ids : List Nat) (hst : St mu w0 M w) (ha : Has N [] L ⟨rtmps r vs, []⟩)
    (h : C ⟨P, some l, n, N, mu, w0⟩ r.assign [] L M (fun ds L' M' => ∃ k : Nat, M'[k]? = some (obj l (lp .ready none r)) ∧ C ⟨P, some l, n, N, mu, w0⟩ r.body ds L' (M'.set k (obj l (lp .busy none r))) (rnd l r Φ none) (ids.map fun i => (i, rnd l r Φ (some (.exit i)))) (rnd l r Φ (some .ret))) [] (fun _ _ _ => False)) :
    RoundIn (FW none) n' P l r.fn (rtmps r vs) r.assign r.body w (fun e w' => ∃ b, e = .returned (.bool b) ∧ ∃ M', St mu w0 M' w' ∧ Φ b M') := by
  have key : RoundIn (FW none) n P l r.fn (rtmps r vs) r.assign r.body w (fun e w' => ∃ b, e = .returned (.bool b) ∧ ∃ M', St mu w0 M' w' ∧ Φ b M') := by
    refine roundIn_of_wpIn (F := FW none) trivial ?_
    refine Code.wpIn_mono ?_ (h ⟨rtmps r vs, []⟩ w ha hst)
    have fin : ∀ (c : Option Code) (ds : List Deferred) (L : Env) (M : List Res) (w : World), St mu w0 M w → rnd l r Φ c ds L M → ∃ v w', (Instr.endRound l c).run P w = .ok v w' ∧ ∃ b, (Ending.returned v) = .returned (.bool b) ∧ ∃ M', St mu w0 M' w' ∧ Φ b M' := by
      rintro c ds L M w hw ⟨k, hk, hΦ⟩
      have hl : w.heap[l]? = some (lp .busy none r) := hw.get k hk
      exact ⟨_, _, run_endRound (P := P) c hl, _, rfl, _, hw.putO k hk _, hΦ⟩
    intro e a w q
    cases e with
    | normal =>
      obtain ⟨ds, L', M', h1, h2, k, hk, hb⟩ := q
      have hl : w.heap[l]? = some (lp .ready none r) := h2.get k hk
      refine ⟨_, run_beginRound (P := P) hl rfl, ?_⟩
      refine Code.wpIn_mono ?_ (hb a _ h1 (h2.putO k hk _))
      intro e a w q
      cases e with
      | normal => obtain ⟨ds, L', M', h1, h2, h3⟩ := q; exact fin _ _ _ _ _ h2 h3
      | ret => obtain ⟨ds, L', M', h1, h2, h3⟩ := q; exact fin _ _ _ _ _ h2 h3
      | exit id =>
        obtain ⟨ds, L', M', K, h1, h2, h3, h4⟩ := q
        have hk : K = rnd l r Φ (some (.exit id)) := by
          clear h4 hb h
          induction ids with
          | nil => cases h3
          | cons i ids ih =>
            simp only [List.map_cons, List.lookup] at h3
            by_cases e : id = i
            · subst e
              simp only [beq_self_eq_true] at h3
              injection h3 with h3
              exact h3.symm
            · simp only [show (id == i) = false by simpa using e] at h3
              exact ih h3
        subst hk
        exact fin _ _ _ _ _ h2 h4
      | goto l => exact q.elim
      | panic ch => exact q.elim
      | outgrown => exact q.elim
    | ret => obtain ⟨ds, L', M', h1, h2, h3⟩ := q; exact h3.elim
    | exit id => obtain ⟨ds, L', M', K, h1, h2, h3, h4⟩ := q; cases h3
    | goto l => exact q.elim
    | panic ch => exact q.elim
    | outgrown => exact q.elim
  exact ⟨key.1, fun c cs hr => key.2 c cs (fun d hd => by simp [FW, Fence.wide] at hd)⟩

/-- The slots of a round. -/
theorem Has.round1 {N : Nat} {ds : List Deferred} {L : Env} {r : Loop} {p : Nat} {v : Value} (ha : Has N ds L ⟨r.tmps, ds⟩) (hp : r.params = #[p]) (hN : Nat.blt p N = true) : Has N [] ((p, v) :: L) ⟨rtmps r [v], []⟩ := by
  have h1 : Has N [] L ⟨r.tmps, []⟩ := ⟨ha.size, rfl, ha.get⟩
  have h2 := h1.put (dst := some p) (by simpa [dstOk, Nat.blt_eq] using hN) v
  have e : rtmps r [v] = r.tmps.setIfInBounds p v := by unfold rtmps; rw [hp]; simp
  rw [e]
  exact h2
theorem Has.round2 {N : Nat} {ds : List Deferred} {L : Env} {r : Loop} {p q : Nat} {u v : Value} (ha : Has N ds L ⟨r.tmps, ds⟩) (hp : r.params = #[p, q]) (hN : Nat.blt p N = true) (hM : Nat.blt q N = true) : Has N [] ((q, v) :: (p, u) :: L) ⟨rtmps r [u, v], []⟩ := by
  have h1 : Has N [] L ⟨r.tmps, []⟩ := ⟨ha.size, rfl, ha.get⟩
  have h2 := h1.put (dst := some p) (by simpa [dstOk, Nat.blt_eq] using hN) u
  have h3 := h2.put (dst := some q) (by simpa [dstOk, Nat.blt_eq] using hM) v
  have e : rtmps r [u, v] = (r.tmps.setIfInBounds p u).setIfInBounds q v := by unfold rtmps; rw [hp]; simp
  rw [e]
  exact h3

/-- The statement. -/
theorem C.rangeFunc {X : Cfg} {ds : List Deferred} {L : Env} {M : List Res} {nK rK : Kont} {xs : List (Nat × Kont)} (hro : X.ro = none) {g : Operand} {ps : Array Tmp} {asg body : Code} {gf : Nat} {lb : Array Value} (hg : evl L g = some (.func (.func gf) #[] lb)) (hcall : ∀ args w, (callFunc gf args).run X.P w = .ok (.enter gf args) w)
    (h : ∀ (k l : Nat) (r : Loop), r.params = ps → r.assign = asg → r.body = body → Has X.N ds L ⟨r.tmps, ds⟩ → ∀ w, St X.mu X.w0 (obj l (lp .ready none r) :: obj k (.deferred (some [])) :: M) w →
      Calls X.P gf (#[yld l] ++ lb) w (fun e w' => (∃ v, e = .returned v) ∧ ∃ (M' : List Res) (st : LoopState) (pe : Option Code) (i : Nat), St X.mu X.w0 M' w' ∧ M'[i]? = some (obj l (lp st pe r)) ∧ st ≠ .busy ∧ match pe with
        | none => nK (mark k :: ds) L (M'.eraseIdx i)
        | some .ret => rK (mark k :: ds) L (M'.eraseIdx i)
        | some (.exit id) => ∃ K, xs.lookup id = some K ∧ K (mark k :: ds) L (M'.eraseIdx i)
        | _ => False)) : C X (.rangeFunc g ps asg body) ds L M nK xs rK := by
  intro a w ha hw
  refine wpIn_rangeFunc ?_
  intro fn hfn
  obtain ⟨r, hr⟩ : ∃ r : Loop, r = { state := .ready, pending := none, fn, tmps := a.tmps, params := ps, assign := asg, body, defers := w.heap.size } := ⟨_, rfl⟩
  have hst : St X.mu X.w0 (obj (w.heap.size + 1) (lp .ready none r) :: obj w.heap.size (.deferred (some [])) :: M) ((w.alloc (.deferred (some []))).alloc (lp .ready none r)) := by
    have h1 := (hw.alloc (.deferred (some []))).alloc (lp .ready none r)
    rwa [World.size_alloc] at h1
  refine ⟨w.heap.size + 1, [mark w.heap.size], (w.alloc (.deferred (some []))).alloc (lp .ready none r), { target := .fn (.func gf) lb, args := #[yld (w.heap.size + 1)] }, (w.alloc (.deferred (some []))).alloc (lp .ready none r), gf, #[yld (w.heap.size + 1)] ++ lb, (w.alloc (.deferred (some []))).alloc (lp .ready none r), ?_, ?_, ?_, ?_, ?_, ?_⟩
  · have e : (FW X.ro).round = none := hro
    rw [e, run_enterLoop_outer]
    rw [hr]
    rfl
  · simp only [resolve, ha.eval hg]
    simp [go_sem]
  · intro f' hf'; exact trivial
  · simp only [invoke, hcall]
  · intro h; simp [FW, Fence.wide] at h
  have hc := h w.heap.size (w.heap.size + 1) r (by rw [hr]) (by rw [hr]) (by rw [hr]) (by rw [hr]; exact ⟨ha.size, rfl, ha.get⟩) _ hst
  have h2 : CallsIn Fence.wide (X.n - 1) X.P gf (#[yld (w.heap.size + 1)] ++ lb) ((w.alloc (.deferred (some []))).alloc (lp .ready none r)) _ := callsIn_wide.2 hc
  refine CallsIn.mono (F := FW X.ro) h2 ?_
  rintro e w' ⟨⟨v, rfl⟩, M', st, pe, i, h3, h4, h5, h6⟩
  have hl : w'.heap[w.heap.size + 1]? = some (lp st pe r) := h3.get i h4
  have he := run_endLoop (P := X.P) hl h5
  have h7 : St X.mu X.w0 (M'.eraseIdx i) (w'.putObj (w.heap.size + 1) (.loop { { r with state := st, pending := pe } with state := .exhausted })) := by
    have := h3.putO i h4 (.loop { { r with state := st, pending := pe } with state := .exhausted })
    refine (this.front i (by rw [List.getElem?_set_self (List.getElem?_eq_some_iff.1 h4).1])).sub ?_
    have e : (M'.set i (obj (w.heap.size + 1) (.loop { { r with state := st, pending := pe } with state := .exhausted }))).eraseIdx i = M'.eraseIdx i := by
      rw [List.eraseIdx_set_eq]
    rw [e]
    exact (List.Sublist.refl _).cons _
  generalize hW : w'.putObj (w.heap.size + 1) (.loop { { r with state := st, pending := pe } with state := .exhausted }) = W at h7
  have he' : (Instr.endLoop (w.heap.size + 1)).run X.P w' = .ok pe W := by rw [← hW]; exact he
  refine ⟨pe, W, he', ?_⟩
  clear he he' hW hl h4 h3
  have ha' : Has X.N (mark w.heap.size :: ds) L { a with defers := [mark w.heap.size] ++ a.defers } := ⟨ha.size, by rw [ha.defers]; rfl, ha.get⟩
  match pe, h6 with
  | none, h6 => exact ⟨_, _, _, ha', h7, h6⟩
  | some .ret, h6 => exact wpIn_ret ⟨_, _, _, ha', h7, h6⟩
  | some (.exit id), ⟨K, hx, h6⟩ => exact wpIn_exit ⟨_, _, _, K, ha', h7, hx, h6⟩

/-- What is owed at the end of a function that may hold a mark. -/
def FinM (P : Program) (fn : Func) (N : Nat) (mu : Nat → Prop) (w : World) (R : Ending → World → Prop) : Kont := fun ds L M => Fin_ P fn N mu w R ds L M ∨ ∃ (k i : Nat), ds = [mark k] ∧ M[i]? = some (obj k (.deferred (some []))) ∧ Fin_ P fn N mu w R [] L (M.set i (obj k (.deferred none)))
theorem zip_env {args : List Value} {t : Nat} : ∀ k v, ((List.range args.length).zip args).lookup k = some v → (args.toArray ++ Array.replicate (t - args.toArray.size) undef).getD k undef = v := by
  intro k v hk
  have key : ∀ (l : List Value) (s k : Nat) (v : Value), ((List.range' s l.length).zip l).lookup k = some v → s ≤ k ∧ l[k - s]? = some v := by
    intro l
    induction l with
    | nil => intro s k v h; cases h
    | cons x l ih =>
      intro s k v h
      simp only [List.length_cons, List.range'_succ, List.zip_cons_cons, List.lookup] at h
      by_cases e : k = s
      · subst e
        simp only [beq_self_eq_true] at h
        exact ⟨Nat.le_refl _, by simpa using h⟩
      · simp only [show (k == s) = false by simpa using e] at h
        obtain ⟨h1, h2⟩ := ih (s + 1) k v h
        refine ⟨by omega, ?_⟩
        rw [show k - s = (k - (s + 1)) + 1 by omega]
        simpa using h2
  rw [List.range_eq_range'] at hk
  obtain ⟨_, h2⟩ := key args 0 k v hk
  have hlt := (List.getElem?_eq_some_iff.1 h2).1
  simp only [Nat.sub_zero] at h2 hlt
  rw [Array.getD_eq_getD_getElem?, Array.getElem?_append_left (by simpa using hlt)]
  simp [h2]
/-- A function's contract from its body, told in the words of a world that came before. -/
theorem calls_of_CM {mu : Nat → Prop} {M0 : List Res} {P : Program} {f : FuncId} {fn : Func} {c : Code} {args : List Value} {w w0 : World} {R : Ending → World → Prop} {N : Nat} (hf : P.funcs[f]? = some fn) (hb : fn.body = some c) (hN : fn.ntmps = N) (hn : args.length ≤ N)
    (hst : St mu w0 M0 w) (h : C ⟨P, none, 0, N, mu, w0⟩ c [] ((List.range args.length).zip args) M0 (FinM P fn N mu w0 R) [] (FinM P fn N mu w0 R)) : Calls P f args.toArray w R := by
  subst hN
  rw [← callsIn_wide (n := 0)]
  refine callsIn_of_wp_marks hf hb trivial ?_
  refine Code.wpIn_mono ?_ (h _ w ⟨by simp; omega, rfl, zip_env⟩ hst)
  have fin : ∀ a w', (∃ ds L M, Has fn.ntmps ds L a ∧ St mu w0 M w' ∧ FinM P fn fn.ntmps mu w0 R ds L M) → LeavesInM Fence.wide 0 P fn a.tmps R a.defers .returning w' := by
    rintro a w' ⟨ds, L, M, h1, h2, (⟨rfl, h3⟩ | ⟨k, i, rfl, h4, -, h3⟩)⟩
    · rw [h1.defers]
      exact h3 a w' h1 h2
    · rw [h1.defers]
      refine ⟨by simp, .inl ⟨k, _, rfl, run_takeDeferred (h2.get i h4 : w'.heap[k]? = some (.deferred (some []))), ?_⟩⟩
      exact h3 ⟨a.tmps, []⟩ _ ⟨h1.size, rfl, h1.get⟩ (h2.putO i h4 _)
  intro e a w' q
  cases e with
  | normal => exact fin a w' q
  | ret => exact fin a w' q
  | exit id =>
    obtain ⟨ds, L, M, K, h1, h2, h3, _⟩ := q
    cases h3
  | goto l => exact q.elim
  | panic ch => exact q.elim
  | outgrown => exact q.elim
theorem calls_of_Cg {mu : Nat → Prop} {M0 : List Res} {P : Program} {f : FuncId} {fn : Func} {c : Code} {args : List Value} {w w0 : World} {R : Ending → World → Prop} {N : Nat} (hf : P.funcs[f]? = some fn) (hb : fn.body = some c) (hN : fn.ntmps = N) (hn : args.length ≤ N)
    (hst : St mu w0 M0 w) (h : C ⟨P, none, 0, N, mu, w0⟩ c [] ((List.range args.length).zip args) M0 (Fin_ P fn N mu w0 R) [] (Fin_ P fn N mu w0 R)) : Calls P f args.toArray w R := by
  refine calls_of_CM hf hb hN hn hst ?_
  intro a w ha hw
  refine Code.wpIn_mono ?_ (h a w ha hw)
  intro e a w' q
  cases e with
  | normal => obtain ⟨ds, L, M, h1, h2, h3⟩ := q; exact ⟨ds, L, M, h1, h2, .inl h3⟩
  | ret => obtain ⟨ds, L, M, h1, h2, h3⟩ := q; exact ⟨ds, L, M, h1, h2, .inl h3⟩
  | exit id => exact q
  | goto l => exact q
  | panic ch => exact q
  | outgrown => exact q
end Go.Proofs.YtiminmnmeknioaaDoor
/- min; full cuts. -/
set_option linter.unusedVariables false
set_option linter.unusedSimpArgs false
namespace Go.Proofs.YtiminmnmeknioaaDoor
open Go Go.RowKit
section
variable {X : Cfg} {ops : Array Oper} {rest : List Oper} {o : Oper} {ds : List Deferred} {L : Env} {M : List Res} {K : Kont} {d : Nat} {S : World → Prop}
theorem R.min {x y : Operand} {ts : Array TypeId} {k k' : IntKind} {i j : Int} (ho : o.op = .call { callee := .builtin .min, args := #[x, y], argTypes := ts }) (hx : evl L x = some (.int k i)) (hy : evl L y = some (.int k' j)) : RunV X o ds L S (.int k (if j < i then j else i)) :=
  (fun a w ha hw => by
    unfold execOp; rw [ho]
    simp only [resolve, invoke, builtin, List.map_toArray, List.map_cons, List.map_nil, ha.eval hx, ha.eval hy, Sem.run_bind, Sem.run_pure, Result.andThen, run_min_int2])
theorem J.min {x y : Operand} {ts : Array TypeId} {k k' : IntKind} {i j : Int} (ho : o.op = .call { callee := .builtin .min, args := #[x, y], argTypes := ts }) (hg : o.guard = none) (hd : o.dst = some d) (hN : Nat.blt d X.N = true) (hx : evl L x = some (.int k i)) (hy : evl L y = some (.int k' j))
    (h : J X ops rest ds ((d, .int k (if j < i then j else i)) :: L) M K) : J X ops (o :: rest) ds L M K :=
  J.val hg hd hN (by simp [ho]) (R.min ho hx hy) h
end
theorem fin0 {P : Program} {N : Nat} {mu : Nat → Prop} {w : World} {L : Env} {M : List Res} {fn : Func} {R : Ending → World → Prop} (hr : fn.results = #[]) (h : ∀ w', St mu w M w' → R (.returned (.tuple #[])) w') : Fin_ P fn N mu w R [] L M := by
  refine ⟨rfl, fun a w' ha hw => ⟨_, ?_, h w' hw⟩⟩
  rw [results_eq, hr]
  simp only [Sem.run_bind, List.mapM_toArray, List.mapM_nil, Result.andThen, Sem.run_pure, Sem.run_map]
  rfl
theorem slc_lhm {P : Program} {t e : TypeId} {sz : Nat} {A : Option Addr} {n c : Nat} {kl kh km : IntKind} {l h m : Int} (hu : P.underlying t = some (.slice e)) (hz : ∀ w, (sizeOf e).run P w = .ok sz w) (h0 : 0 ≤ l) (h1 : l ≤ h) (h2 : h ≤ m) (h3 : m ≤ c) :
    ∀ w, (Instr.sliceAt t (.slice A n c) (some (.int kl l)) (some (.int kh h)) (some (.int km m))).run P w = .ok (.slice (if m.toNat = l.toNat then A else A.map (·.add (l.toNat * sz))) (h.toNat - l.toNat) (m.toNat - l.toNat)) w := by
  intro w
  unfold Instr.sliceAt Instr.slice Instr.sliceBounds
  simp only [Sem.run_bind, run_underlying hu, Result.andThen, Sem.run_pure, run_sliceBound w km m c _ (by omega) h3, run_sliceBound w kh h m.toNat _ (by omega) (by omega), run_sliceBound w kl l h.toNat _ h0 (by omega), hz]
theorem SubV.cut3 {A : Option Addr} {n c : Nat} {xs : List UInt8} (l h m : Int) (l' k : Nat) (hl : l = l') (hk : h = l' + k) (hm : m = h) (hn : l' + k ≤ n) : SubV (.slice A n c) xs (.slice (if m.toNat = l.toNat then A else A.map (·.add (l.toNat * 1))) (h.toNat - l.toNat) (m.toNat - l.toNat)) ((xs.drop l').take k) := fun fp w hh => by
  subst hl hm hk
  obtain ⟨A', c', hv, h1, h2, h3⟩ := hh.form
  injection hv with e1 e2 e3
  subst e1 e2 e3
  refine RB.mk (by simp; omega) (by omega) (by omega) fun hn0 => ?_
  obtain ⟨b, o, rfl, hb, hc⟩ := h3 (by omega)
  refine ⟨b, o + l', ?_, hb, fun j x hx => ?_⟩
  · rw [if_neg (by omega)]
    simp [Addr.add_mid]
  · rw [List.getElem?_take] at hx
    split at hx
    · rw [List.getElem?_drop] at hx
      rw [Nat.add_assoc]
      exact hc _ _ hx
    · cases hx
end Go.Proofs.YtiminmnmeknioaaDoor
/- One slice of several is opened, written, closed. -/
set_option linter.unusedVariables false
set_option linter.unusedSimpArgs false
namespace Go.Proofs.YtiminmnmeknioaaDoor
open Go Go.RowKit

section
variable {mu : Nat → Prop} {w w0 : World} {e : TypeId} {M : List Res} {r r1 r2 : Res}
theorem St.split (h : St mu w0 (r :: M) w) (h1 : r1.hold w) (h2 : r2.hold w) (hf1 : ∀ b, r1.fp b → r.fp b) (hf2 : ∀ b, r2.fp b → r.fp b) (hd : ∀ b, r1.fp b → r2.fp b → False) : St mu w0 (r1 :: r2 :: M) w := by
  have hp := List.pairwise_cons.1 h.sep
  refine ⟨h.frm, ?_, ?_, ?_⟩
  · intro s hs
    rcases List.mem_cons.1 hs with rfl | hs
    · exact h1
    rcases List.mem_cons.1 hs with rfl | hs
    · exact h2
    · exact h.hold s (List.mem_cons_of_mem _ hs)
  · intro s hs b hb
    rcases List.mem_cons.1 hs with rfl | hs
    · exact h.bnd r List.mem_cons_self b (hf1 b hb)
    rcases List.mem_cons.1 hs with rfl | hs
    · exact h.bnd r List.mem_cons_self b (hf2 b hb)
    · exact h.bnd s (List.mem_cons_of_mem _ hs) b hb
  · refine List.Pairwise.cons (fun s hs b k1 k2 => ?_) (List.Pairwise.cons (fun s hs b k1 k2 => hp.1 s hs b (hf2 b k1) k2) hp.2)
    rcases List.mem_cons.1 hs with rfl | hs
    · exact hd b k1 k2
    · exact hp.1 s hs b (hf1 b k1) k2
/-- Slices of octets, each a row of its own: all but one. -/
def gX (e : TypeId) (j : Nat) (vs : List Value) (xss : List (List UInt8)) : Res :=
  ⟨fun b => ∃ (i : Nat) (u : Value), i ≠ j ∧ vs[i]? = some u ∧ u.ownBlock = some b,
   fun w => vs.length = xss.length ∧ (∀ (i : Nat) (u : Value) (x : List UInt8), i ≠ j → vs[i]? = some u → xss[i]? = some x → w.ownsRow 0 e 1 u x.length (x.map vu8)) ∧ (∀ (i j : Nat) (u v : Value) (b : Nat), i < j → vs[i]? = some u → vs[j]? = some v → u.ownBlock = some b → v.ownBlock = some b → False),
   fun w w' hc h => ⟨h.1, fun i u x hij hu hx => (rowR e 1 u x.length (x.map vu8)).loc w w' (fun b hb => hc b ⟨i, u, hij, hu, hb⟩) (h.2.1 i u x hij hu hx), h.2.2⟩⟩
variable {vs : List Value} {xss : List (List UInt8)} {j : Nat} {u : Value} {x : List UInt8}
theorem St.gopen (h : St mu w0 (gR e vs xss :: M) w) (hu : vs[j]? = some u) (hx : xss[j]? = some x) (hn : 0 < x.length) : ∃ q : Nat × Nat × Array Value, (u = .slice (some ⟨q.1, 0, none⟩) x.length q.2.1 ∧ x.length ≤ q.2.1 ∧ q.2.1 ≤ 9223372036854775807 ∧ q.2.2.size = q.2.1 ∧ q.2.2.toList.take x.length = x.map vu8) ∧ St mu w0 (blk q.1 q.2.2 e :: gX e j vs xss :: M) w := by
  have h1 : (gR e vs xss).hold w := h.get 0 rfl
  have h2 := h1.2.1 j u x hu hx
  rcases h2.2 with ⟨_, h0⟩ | ⟨g, cap, cur, rfl, _, hh, e1, e2, e3, e4⟩
  · omega
  · refine ⟨(g, cap, cur), ⟨rfl, e1, by simpa [maxLen] using e2, by simpa using e3, by simpa using e4⟩, ?_⟩
    refine h.split hh ⟨h1.1, fun i u x _ hu hx => h1.2.1 i u x hu hx, h1.2.2⟩ (fun b hb => ?_) (fun b hb => ?_) (fun b hb hb2 => ?_)
    · have : b = g := hb
      subst this
      exact ⟨j, _, hu, rfl⟩
    · obtain ⟨i, u, _, hi, hb⟩ := hb
      exact ⟨i, u, hi, hb⟩
    · have : b = g := hb
      subst this
      obtain ⟨i, u2, hij, hi, hb⟩ := hb2
      rcases Nat.lt_or_gt_of_ne hij with h3 | h3
      · exact h1.2.2 i j _ _ b h3 hi hu hb rfl
      · exact h1.2.2 j i _ _ b h3 hu hi rfl hb
theorem St.gclose {g cap : Nat} {cur : Array Value} {y : List UInt8} (h : St mu w0 (blk g cur e :: gX e j vs xss :: M) w) (hu : vs[j]? = some (.slice (some ⟨g, 0, none⟩) y.length cap)) (h1 : y.length ≤ cap) (h2 : cap ≤ 9223372036854775807) (h3 : cur.size = cap) (h4 : cur.toList.take y.length = y.map vu8) : St mu w0 (gR e vs (xss.set j y) :: M) w := by
  have k1 : w.heap[g]? = some (.cells cur e (0, 0)) := h.get 0 rfl
  have k2 : (gX e j vs xss).hold w := h.get 1 rfl
  refine h.merge ⟨by rw [List.length_set]; exact k2.1, fun i u x hi hx => ?_, k2.2.2⟩ (fun b hb => ?_)
  · rw [List.getElem?_set] at hx
    by_cases hij : j = i
    · subst hij
      rw [if_pos rfl] at hx
      split at hx
      · injection hx with hx
        subst hx
        rw [hu] at hi
        injection hi with hi
        subst hi
        exact ⟨by simp, .inr ⟨g, cap, cur, rfl, Nat.zero_le _, k1, h1, by simpa [maxLen] using h2, by simpa using h3, by simpa using h4⟩⟩
      · cases hx
    · rw [if_neg hij] at hx
      exact k2.2.1 i u x (fun e => hij e.symm) hi hx
  · obtain ⟨i, u, hi, hb⟩ := hb
    by_cases hij : i = j
    · subst hij
      rw [hu] at hi
      injection hi with hi
      subst hi
      left
      have : g = b := by simpa [Value.ownBlock] using hb
      exact this.symm
    · exact .inr ⟨i, u, hij, hi, hb⟩
/-- A cell of a row. -/
theorem St.rcell {sz n b n' c i : Nat} (h : St mu w0 M w) (k : Nat) (hk : M[k]? = some (rowR e sz (.slice (some ⟨b, 0, none⟩) n' c) n vs)) (hu : vs[i]? = some u) : w.cell? ⟨b, i, none⟩ = some u := by
  have h1 : w.ownsRow 0 e sz (.slice (some ⟨b, 0, none⟩) n' c) n vs := h.get k hk
  have := h1.cells (g := b) rfl i u hu
  rwa [Addr.add_mid, Nat.zero_add] at this
/-- A row that is not empty lies in a block. -/
theorem row_some {sz n c : Nat} {A : Option Addr} (h : w.ownsRow 0 e sz (.slice A n c) n vs) (hn : 0 < n) : ∃ b, A = some ⟨b, 0, none⟩ := by
  rcases h.2 with ⟨_, h0⟩ | ⟨g, cap, cur, hv, _⟩
  · omega
  · injection hv with hA
    exact ⟨g, hA⟩
end
end Go.Proofs.YtiminmnmeknioaaDoor
/- Inputs, as they are read: what the reading tells of memory, and how large it is. -/
set_option linter.unusedVariables false
set_option linter.unusedSimpArgs false
namespace Go.Proofs.YtiminmnmeknioaaDoor
open Go Go.RowKit Go.ChangeShapes Go.WideShapes

theorem bulk_part {H : Type} {d : DataW H} {l : List (DataW H)} (h : d ∈ l) : Rows.uptoBulk d ≤ Rows.uptoBulkAll l := by
  induction l with
  | nil => cases h
  | cons x r ih =>
    simp only [Rows.uptoBulkAll]
    cases List.mem_cons.1 h with
    | inl e => subst e; omega
    | inr e => have := ih e; omega
theorem bulk_one {H : Type} (d : DataW H) : 1 ≤ Rows.uptoBulk d := by
  cases d with
  | lit l => cases l <;> simp [Rows.uptoBulk]
  | nil => simp [Rows.uptoBulk]
  | ptr d => simp [Rows.uptoBulk]
  | slice elems spare => simp [Rows.uptoBulk]
  | agg parts => simp [Rows.uptoBulk]
  | iface t d => simp [Rows.uptoBulk]
  | map entries => simp [Rows.uptoBulk]
  | held h => simp [Rows.uptoBulk]
theorem bulk_len {H : Type} (l : List (DataW H)) : l.length ≤ Rows.uptoBulkAll l := by
  induction l with
  | nil => simp [Rows.uptoBulkAll]
  | cons x r ih => have := bulk_one x; simp only [Rows.uptoBulkAll, List.length_cons]; omega
theorem bulk_bound {H : Type} {l : List (DataW H)} (hk : Rows.uptoSmall H l = true) : Rows.uptoBulkAll l ≤ 1048576 := of_decide_eq_true hk

theorem list_of {α : Type} {p : Nat → α → Prop} : ∀ (n : Nat), (∀ i, i < n → ∃ x, p i x) → ∃ xs : List α, xs.length = n ∧ ∀ i x, xs[i]? = some x → p i x := by
  intro n
  induction n with
  | zero => intro _; exact ⟨[], rfl, fun i x h => by simp at h⟩
  | succ n ih =>
    intro h
    obtain ⟨xs, hl, hp⟩ := ih (fun i hi => h i (by omega))
    obtain ⟨x, hx⟩ := h n (by omega)
    refine ⟨xs ++ [x], by simp [hl], fun i y hy => ?_⟩
    rcases Nat.lt_trichotomy i xs.length with hi | hi | hi
    · rw [List.getElem?_append_left hi] at hy; exact hp i y hy
    · subst hi
      rw [List.getElem?_append_right (Nat.le_refl _), Nat.sub_self] at hy
      simp at hy
      subst hy
      rw [hl]; exact hx
    · rw [List.getElem?_append_right (by omega), List.getElem?_eq_none (by simp; omega)] at hy
      cases hy
section
variable {H : Type} {enc : TypeId × Value → H} {P : Program} {W : World} {α : Type}
/-- The reader at work. -/
abbrev TR (enc : TypeId × Value → H) (P : Program) (W : World) (fuel : Nat) (t : TypeId) (cs : List Value) (x : DataW H × List MemPlace) : Prop := DataW.trod enc P W 0 (fun _ => true) true fuel t cs = some x
/-- What cells read as a type hold, and how large that is. -/
def Rd (enc : TypeId × Value → H) (P : Program) (W : World) (t : TypeId) (sz : Nat) (R : World → α → List Value → Prop) (B : α → Nat → Prop) : Prop := ∀ fuel cs x, TR enc P W fuel t cs x → ∃ a, R W a cs ∧ cs.length = sz ∧ B a (Rows.uptoBulk x.1)
def InR64 (n : Int) : Prop := -9223372036854775808 ≤ n ∧ n ≤ 9223372036854775807
theorem rd_i64 {t : TypeId} {fuel : Nat} {cs : List Value} {x : DataW H × List MemPlace} (ht : P.underlying t = some (.int .i64)) (h : TR enc P W fuel t cs x) : ∃ n, cs = [.int .i64 n] ∧ InR64 n := by
  obtain ⟨n, rfl, _, hw⟩ := DataW.trod_int ht h
  refine ⟨n, rfl, ?_⟩
  simp only [Lit.wf, Bool.and_eq_true, decide_eq_true_eq] at hw
  exact hw
theorem rd_u8 {t : TypeId} {fuel : Nat} {cs : List Value} {x : DataW H × List MemPlace} (ht : P.underlying t = some (.int .u8)) (h : TR enc P W fuel t cs x) : ∃ b : UInt8, cs = [.int .u8 (b.toNat : Int)] := by
  obtain ⟨n, rfl, _, hw⟩ := DataW.trod_int ht h
  simp only [Lit.wf, Bool.and_eq_true, decide_eq_true_eq] at hw
  have h0 : 0 ≤ n := hw.1
  have h1 : n ≤ 255 := hw.2
  refine ⟨UInt8.ofNat n.toNat, ?_⟩
  rw [UInt8.toNat_ofNat', show n.toNat % 2 ^ 8 = n.toNat from Nat.mod_eq_of_lt (by omega), Int.toNat_of_nonneg h0]
theorem Rd.ints {t : TypeId} (ht : P.underlying t = some (.int .i64)) : Rd enc P W t 1 isI (fun n _ => InR64 n) := fun fuel cs x h => by
  obtain ⟨n, rfl, hn⟩ := rd_i64 ht h
  exact ⟨n, rfl, rfl, hn⟩
theorem Rd.octets {t : TypeId} (ht : P.underlying t = some (.int .u8)) : Rd enc P W t 1 isU8 (fun _ _ => True) := fun fuel cs x h => by
  obtain ⟨n, rfl⟩ := rd_u8 ht h
  exact ⟨n, rfl, rfl, trivial⟩
theorem rd_slice {t e : TypeId} {sz : Nat} {R : World → α → List Value → Prop} {B : α → Nat → Prop} {fuel : Nat} {cs : List Value} {x : DataW H × List MemPlace} (ht : P.underlying t = some (.slice e)) (hc : P.cellsOf e = sz) (hsz : 0 < sz) (hR : Rd enc P W e sz R B) (h : TR enc P W fuel t cs x) :
    ∃ v xs, cs = [v] ∧ RSl sz R (Old W) W v xs ∧ xs.length ≤ Rows.uptoBulk x.1 ∧ ∀ a ∈ xs, ∃ n, n ≤ Rows.uptoBulk x.1 ∧ B a n := by
  rcases Go.Deep.open_slice ht h with ⟨rfl, rfl⟩ | ⟨a, len, cap, m, n, D, Pl, rfl, hb, hl, hm, hmm, rfl, hx⟩
  · exact ⟨_, [], rfl, RSl.nil 0 (by omega) none, Nat.zero_le _, fun a h => by cases h⟩
  · rw [hc] at hx
    have hmc : m = cap := by rw [hmm]; rfl
    subst hmc
    have key : ∀ i, i < len → ∃ y, (∃ cs', W.cells? 0 (a.add (i * sz)) sz = some cs' ∧ R W y cs' ∧ cs'.length = sz) ∧ B y (Rows.uptoBulk (D i)) := by
      intro i hi
      obtain ⟨cs', h1, h2⟩ := hx i (by omega)
      obtain ⟨y, h3, h4, h5⟩ := hR n cs' _ h2
      exact ⟨y, ⟨cs', h1, h3, h4⟩, h5⟩
    obtain ⟨xs, hxl, hxs⟩ := list_of len key
    have hbulk : Rows.uptoBulkAll ((List.range len).map D) ≤ Rows.uptoBulk (DataW.slice ((List.range len).map D) ((List.range (m - len)).map fun j => D (len + j))) := by
      simp only [Rows.uptoBulk]; omega
    refine ⟨_, xs, rfl, ⟨some a, len, m, rfl, hxl, hl, by simpa [maxLen] using hm, fun hn => ?_⟩, ?_, fun y hy => ?_⟩
    · obtain ⟨cs0, h0, _, _⟩ := (hxs 0 (xs[0]'(by omega)) (by simp)).1
      obtain ⟨_, hl0, hc0⟩ := World.cells?_some h0
      have hcell := hc0 0 hsz
      rw [Nat.zero_mul] at hcell
      have ha0 : (a.add 0).add 0 = a := by simp [Addr.add]
      rw [ha0, List.getElem?_eq_getElem (by omega)] at hcell
      obtain ⟨ab, ao, asp⟩ := a
      have hsp : asp = none := by
        cases asp with
        | none => rfl
        | some q =>
          exfalso
          unfold World.cell? at hcell
          split at hcell
          · simp at hcell
          · cases hcell
      subst hsp
      refine ⟨ab, ao, rfl, World.block_lt_of_cell? W _ hcell, fun j y hy => ?_⟩
      obtain ⟨cs', h1, h2, h3⟩ := (hxs j y hy).1
      refine ⟨cs', h3, h2, fun i u hu => ?_⟩
      obtain ⟨_, hlj, hcj⟩ := World.cells?_some h1
      have hi : i < sz := by have := (List.getElem?_eq_some_iff.1 hu).1; omega
      have := hcj i hi
      rw [Addr.add_mid, Addr.add_mid] at this
      rw [this, hu]
    · have := bulk_len ((List.range len).map D)
      rw [List.length_map, List.length_range] at this
      show xs.length ≤ Rows.uptoBulk (DataW.slice ((List.range len).map D) ((List.range (m - len)).map fun j => D (len + j)))
      omega
    · obtain ⟨i, hi, rfl⟩ := List.mem_iff_getElem.1 hy
      refine ⟨Rows.uptoBulk (D i), ?_, (hxs i xs[i] (by simp)).2⟩
      have h1 : D i ∈ (List.range len).map D := List.mem_map.2 ⟨i, List.mem_range.2 (by omega), rfl⟩
      have := bulk_part h1
      exact Nat.le_trans this hbulk
/-- A slice of octets. -/
theorem rd_bytes {t e : TypeId} {fuel : Nat} {cs : List Value} {x : DataW H × List MemPlace} (ht : P.underlying t = some (.slice e)) (he : P.underlying e = some (.int .u8)) (hc : P.cellsOf e = 1) (h : TR enc P W fuel t cs x) : ∃ v xs, cs = [v] ∧ BA W v xs ∧ xs.length ≤ Rows.uptoBulk x.1 := by
  obtain ⟨v, xs, h1, h2, h3, _⟩ := rd_slice ht hc (by omega) (Rd.octets he) h
  exact ⟨v, xs, h1, h2, h3⟩
theorem Rd.bytes {t e : TypeId} (ht : P.underlying t = some (.slice e)) (he : P.underlying e = some (.int .u8)) (hc : P.cellsOf e = 1) : Rd enc P W t 1 (isB (Old W)) (fun xs n => xs.length ≤ n) := fun fuel cs x h => by
  obtain ⟨v, xs, rfl, h2, h3⟩ := rd_bytes ht he hc h
  exact ⟨xs, ⟨v, rfl, h2⟩, rfl, h3⟩
/-- A slice of slices of octets. -/
theorem rd_bss {t t1 e : TypeId} {fuel : Nat} {cs : List Value} {x : DataW H × List MemPlace} (ht : P.underlying t = some (.slice t1)) (ht1 : P.underlying t1 = some (.slice e)) (he : P.underlying e = some (.int .u8)) (hc1 : P.cellsOf t1 = 1) (hc : P.cellsOf e = 1) (h : TR enc P W fuel t cs x) :
    ∃ v xss, cs = [v] ∧ BSA W v xss ∧ xss.length ≤ Rows.uptoBulk x.1 ∧ ∀ xs ∈ xss, xs.length ≤ Rows.uptoBulk x.1 := by
  obtain ⟨v, xs, h1, h2, h3, h4⟩ := rd_slice ht hc1 (by omega) (Rd.bytes ht1 he hc) h
  exact ⟨v, xs, h1, h2, h3, fun a ha => (h4 a ha).elim fun n hn => Nat.le_trans hn.2 hn.1⟩
theorem one_of {cs : List Value} {i k : Nat} {v : Value} (hl : cs.length = k) (hi : i < k) (h : (cs.drop i).take 1 = [v]) : cs[i]? = some v := by
  have : (cs.drop i).take 1 = [cs[i]'(by omega)] := by rw [List.drop_eq_getElem_cons (by omega)]; rfl
  rw [this] at h
  injection h with h
  rw [List.getElem?_eq_getElem (by omega), h]
theorem bulk_agg {l : List (DataW H)} {d : DataW H} (h : d ∈ l) : Rows.uptoBulk d ≤ Rows.uptoBulk (DataW.agg l) := by
  have := bulk_part h
  simp only [Rows.uptoBulk]; omega
theorem rd_fields {t : TypeId} {fs : Array Field} {fuel : Nat} {cs : List Value} {x : DataW H × List MemPlace} (ht : P.underlying t = some (.struct fs)) (hone : ∀ (i : Nat) (f : Field), fs[i]? = some f → f.offset = i ∧ P.cellsOf f.type = 1) (hsz : P.cellsOf t = fs.size) (h : TR enc P W fuel t cs x) :
    cs.length = fs.size ∧ ∀ (i : Nat) (f : Field) (v : Value), fs[i]? = some f → cs[i]? = some v → ∃ n y, TR enc P W n f.type [v] y ∧ Rows.uptoBulk y.1 ≤ Rows.uptoBulk x.1 := by
  obtain ⟨xs, n, _, rfl, hl, hxl, hx⟩ := DataW.trod_struct ht h
  refine ⟨hl.trans hsz, fun i f v hf hv => ?_⟩
  obtain ⟨ho, hc⟩ := hone i f hf
  have hi := (Array.getElem?_eq_some_iff.1 hf).1
  have h1 := hx i f hf
  have hcl : i < cs.length := by rw [hl, hsz]; exact hi
  have hd : (cs.drop i).take 1 = [v] := by
    rw [List.drop_eq_getElem_cons hcl]
    rw [List.getElem?_eq_getElem hcl] at hv
    injection hv with hv
    rw [← hv]; rfl
  rw [ho, hc, hd, List.getElem?_eq_getElem (by omega)] at h1
  exact ⟨n, _, h1, bulk_agg (List.mem_map.2 ⟨_, List.getElem_mem _, rfl⟩)⟩
end
section
variable {H : Type} {enc : TypeId × Value → H} {P : Program} {W W' : World}
theorem trodAll_below (hl : laidOutB P = true) (hb : Below W.heap.size W W') : ∀ {ts : List TypeId} {vs : List Value} {ds : List (DataW H)} {ps : List MemPlace}, DataW.TrodAll enc P W 0 (fun _ => true) true ts vs ds ps → (ts.all fun t => P.readableRec t && decide (t < P.types.size)) = true → (∀ x ∈ ps, x.block < W.heap.size) →
    DataW.TrodAll enc P W' 0 (fun b => decide (b < W.heap.size)) true ts vs ds ps := by
  intro ts
  induction ts with
  | nil =>
    intro vs ds ps h _ _
    obtain ⟨rfl, rfl, rfl⟩ := trodAll_nil h
    exact trodAll_mk0
  | cons t ts ih =>
    intro vs ds ps h hr hlt
    obtain ⟨v, vs, d, ds, p, q, rfl, rfl, rfl, h1, h2⟩ := trodAll_cons h
    simp only [List.all_cons, Bool.and_eq_true, decide_eq_true_eq] at hr
    exact trodAll_cons_mk (Below.trod hl hr.1.1 hr.1.2 h1 hb (fun x hx => hlt x (List.mem_append_left _ hx))) (ih h2 hr.2 (fun x hx => hlt x (List.mem_append_right _ hx)))
/-- The law answers true, and old memory is as it was. -/
theorem post_true {f : Func} {s : ChangeSpec} {args : Array Value} {ds gs : List (DataW H)} {before : List MemPlace} {tb : TypeId} (hW : DataW.Whole enc P f.params.toList s.vars false W args.toList ds gs before) (hv : s.vars = []) (hr : f.resultTypes = #[tb]) (htb : P.underlying tb = some .bool)
    (hsp : s.fn H ds = { results := [.lit (.bool true)], args := ds }) (hl : laidOutB P = true) (hread : (f.params.toList.all fun t => P.readableRec t && decide (t < P.types.size)) = true) (hb : Below W.heap.size W W') : s.post enc P f false true false false W args (.bool true) W' := by
  have hW' := hW
  obtain ⟨p, q, hA, hV, rfl, hz, hn⟩ := hW
  rw [hv] at hV
  obtain ⟨rfl, rfl⟩ := trodVars_none hV
  have hlt : ∀ x ∈ p, x.block < W.heap.size := fun x hx => hW'.lt x (by simpa using hx)
  refine ⟨ds, [], _, [], p, [], hW', ?_, ?_, ?_, hb.frame _, fun h => by cases h⟩
  · rw [List.append_nil, hsp, hr]
    exact trodAll_mk1 (shut_bool htb true)
  · rw [List.append_nil, hsp]
    exact trodAll_below hl hb hA hread hlt
  · rw [List.append_nil, hsp, hv]
    rfl
end
end Go.Proofs.YtiminmnmeknioaaDoor
/- crc: the table of nibbles, sums. -/
set_option linter.unusedVariables false
namespace Go.Proofs.YtiminmnmeknioaaDoor
open Go Go.RowKit

def nib (i : Nat) : UInt32 := crc4 (UInt32.ofNat i)
def nibCells (k : Nat) : Array Value := ((List.range 16).map fun i => if i < k then vu32 (nib i) else .int .u32 0).toArray
def crcIt : Nat → UInt32 → UInt32
  | 0, c => c
  | k + 1, c => crcBit (crcIt k c)
theorem nibCells_set (i : Nat) (hi : i < 16) : (nibCells i).setIfInBounds i (vu32 (nib i)) = nibCells (i + 1) := by
  apply Array.ext
  · simp [nibCells]
  · intro j h1 h2
    simp only [nibCells, Array.size_setIfInBounds, List.size_toArray, List.length_map, List.length_range] at h1
    rw [Array.getElem_setIfInBounds (by simpa [nibCells] using h1)]
    simp only [nibCells, List.getElem_toArray, List.getElem_map, List.getElem_range]
    split
    · rename_i e; subst e; rw [if_pos (by omega)]
    · rename_i e
      by_cases h : j < i
      · rw [if_pos h, if_pos (by omega)]
      · rw [if_neg h, if_neg (by omega)]

theorem nibCells_one (k : Nat) : (nibCells k).toList.all (·.oneCell') = true := by
  simp only [nibCells, List.all_eq_true, List.mem_map]
  rintro v ⟨i, _, rfl⟩
  split <;> rfl
theorem nibbles_calls (w : World) : Calls Tryd.prog 82 #[] w (Ret0 w (.agg (nibCells 16))) := by
  refine calls_of_C Tryd.func82 rfl Tryd.ntmps82 (Nat.le_of_ble_eq_true rfl) ?_
  refine C.seq ?_
  refine C.region ?_
  refine J.allocc rfl rfl rfl rfl Tryd.zeroValue141 rfl (fun b0 => ?_)
  refine J.nil ?_
  refine C.seq ?_
  refine C.region ?_
  refine J.allocc rfl rfl rfl rfl Tryd.zeroValue141 rfl (fun b1 => ?_)
  refine J.nil ?_
  refine C.seq ?_
  refine C.seq ?_
  refine C.region ?_
  refine J.move rfl rfl rfl rfl rfl ?_
  refine J.nil ?_
  refine C.block ?_
  refine C.loop (fun i : Nat => i ≤ 16) (fun i => [(0, .pointer (some ⟨b0, 0, none⟩)), (1, .pointer (some ⟨b1, 0, none⟩)), (4, .int .i64 (i : Int))]) (fun i => [blk b1 (nibCells i) 141, blk b0 (nibCells 0) 141]) (fun i => 16 - i) 0 (by omega) ?_ ?_ ?_
  · exact (Sub.cons rfl (Sub.cons rfl (Sub.cons rfl (Sub.nil _))))
  · exact fun w h => h
  intro i hi
  refine C.seq ?_
  refine C.region ?_
  refine J.bin rfl rfl rfl rfl rfl rfl (fun w => rfl) ?_
  refine J.nil ?_
  refine C.seq ?_
  refine C.cond rfl (fun h => ?_) (fun h => ?_)
  · have hlt : i < 16 := by have := of_decide_eq_true h; omega
    refine C.skip ?_
    refine C.seq ?_
    refine C.block ?_
    refine C.seq ?_
    refine C.region ?_
    refine J.move rfl rfl rfl rfl rfl ?_
    refine J.asg rfl rfl rfl rfl rfl ?_
    refine J.nil ?_
    refine C.seq ?_
    refine C.region ?_
    refine J.move rfl rfl rfl rfl rfl ?_
    refine J.conv rfl rfl rfl rfl rfl Tryd.runUnderlying3 Tryd.runUnderlying87 (IntWalk.u32_in _ (by omega)) ?_
    refine J.asg rfl rfl rfl rfl rfl ?_
    refine J.nil ?_
    refine C.seq ?_
    refine C.seq ?_
    refine C.region ?_
    refine J.move rfl rfl rfl rfl rfl ?_
    refine J.nil ?_
    refine C.block ?_
    refine C.loop (fun k : Nat => k ≤ 4) (fun k => [(0, .pointer (some ⟨b0, 0, none⟩)), (1, .pointer (some ⟨b1, 0, none⟩)), (4, .int .i64 (i : Int)), (2, .int .i64 (i : Int)), (9, .int .i64 (k : Int)), (3, vu32 (crcIt k (UInt32.ofNat i)))]) (fun _ => [blk b1 (nibCells i) 141, blk b0 (nibCells 0) 141]) (fun k => 4 - k) 0 (by omega) ?_ ?_ ?_
    · refine Sub.cons rfl (Sub.cons rfl (Sub.cons rfl (Sub.cons rfl (Sub.cons rfl (Sub.cons ?_ (Sub.nil _))))))
      have : ((UInt32.ofNat i).toNat : Int) = (i : Int) := by simp; omega
      show some (Value.int .u32 (i : Int)) = some (Value.int .u32 ((UInt32.ofNat i).toNat : Int))
      rw [this]
    · exact fun w h => h
    intro k hk
    refine C.seq ?_
    refine C.region ?_
    refine J.bin rfl rfl rfl rfl rfl rfl (fun w => rfl) ?_
    refine J.nil ?_
    refine C.seq ?_
    refine C.cond rfl (fun h2 => ?_) (fun h2 => ?_)
    · have hlt2 : k < 4 := by have := of_decide_eq_true h2; omega
      refine C.skip ?_
      refine C.seq ?_
      refine C.block ?_
      refine C.region ?_
      refine J.move rfl rfl rfl rfl rfl ?_
      refine J.bin rfl rfl rfl rfl rfl rfl (fun w => u32_shr _ 1 (by omega)) ?_
      refine J.move rfl rfl rfl rfl rfl ?_
      refine J.bin rfl rfl rfl rfl rfl rfl (fun w => u32_and _ 1) ?_
      refine J.un rfl rfl rfl rfl rfl (fun w => u32_neg _) ?_
      refine J.bin rfl rfl rfl rfl rfl rfl (fun w => u32_and 0xedb88320 _) ?_
      refine J.bin rfl rfl rfl rfl rfl rfl (fun w => u32_xor _ _) ?_
      refine J.asg rfl rfl rfl rfl rfl ?_
      refine J.nil ?_
      refine C.region ?_
      refine J.bin rfl rfl rfl rfl rfl rfl (fun w => ra_add (by omega)) ?_
      refine J.move rfl rfl rfl rfl rfl ?_
      refine J.nil ?_
      exact ⟨rfl, k + 1, by omega, by omega, (Sub.cons rfl (Sub.cons rfl (Sub.cons rfl (Sub.cons rfl (Sub.cons rfl (Sub.cons rfl (Sub.nil _))))))), fun w h => h⟩
    · have hge : k = 4 := by have := of_decide_eq_false h2; omega
      subst hge
      refine C.exit rfl ?_
      refine C.region ?_
      refine J.move rfl rfl rfl rfl rfl ?_
      refine J.move rfl rfl rfl rfl rfl ?_
      refine J.idxa rfl rfl rfl rfl rfl rfl Tryd.runUnderlying141 Tryd.sizeOf87 (by omega) ?_
      refine J.st1 0 (cs' := nibCells (i + 1)) rfl rfl rfl rfl rfl rfl Tryd.sizeOf87 rfl rfl (by simp [nibCells, Nat.blt_eq]; omega) ?_ ?_
      · have := nibCells_set i hlt
        rw [show (0 + ((i : Nat) : Int).toNat * 1) = i by omega]
        exact this
      refine J.nil ?_
      refine C.region ?_
      refine J.bin rfl rfl rfl rfl rfl rfl (fun w => ra_add (by omega)) ?_
      refine J.move rfl rfl rfl rfl rfl ?_
      refine J.nil ?_
      exact ⟨rfl, i + 1, by omega, by omega, (Sub.cons rfl (Sub.cons rfl (Sub.cons rfl (Sub.nil _)))), fun w h => h⟩
  · have hge : i = 16 := by have := of_decide_eq_false h; omega
    subst hge
    refine C.exit rfl ?_
    refine C.seq ?_
    refine C.region ?_
    refine J.ldw 0 rfl rfl rfl rfl rfl Tryd.isAgg141 rfl Tryd.sizeOf141 ?_
    refine J.stw 1 rfl rfl rfl rfl rfl rfl Tryd.sizeOf141 (nibCells_one 16) rfl rfl ?_
    refine J.nil ?_
    refine C.ret ?_
    exact fin1 rfl (RV.cellw 1 rfl Tryd.isAgg141 rfl Tryd.sizeOf141) (fun w' h => h.ret0)
end Go.Proofs.YtiminmnmeknioaaDoor

/- Sizes of types. -/
namespace Go.Proofs.YtiminmnmeknioaaDoor
open Go
theorem inf3 : (Tryd.prog.info? 3).map (fun i => (i.zero, i.size, i.bytes)) = some (some (.int .i64 0), 1, 8) := by kernel_rfl
theorem inf4 : (Tryd.prog.info? 4).map (fun i => (i.zero, i.size, i.bytes)) = some (some (.bool false), 1, 1) := by kernel_rfl
theorem inf5 : (Tryd.prog.info? 5).map (fun i => (i.zero, i.size, i.bytes)) = some (some (.int .u8 0), 1, 1) := by kernel_rfl
theorem inf16 : (Tryd.prog.info? 16).map (fun i => (i.zero, i.size, i.bytes)) = some (some (.pointer none), 1, 8) := by kernel_rfl
theorem inf22 : (Tryd.prog.info? 22).map (fun i => (i.zero, i.size, i.bytes)) = some (some (.slice none 0 0), 1, 24) := by kernel_rfl
theorem inf66 : (Tryd.prog.info? 66).map (fun i => (i.zero, i.size, i.bytes)) = some (some .nilIface, 1, 16) := by kernel_rfl
theorem inf87 : (Tryd.prog.info? 87).map (fun i => (i.zero, i.size, i.bytes)) = some (some (.int .u32 0), 1, 4) := by kernel_rfl
theorem inf105 : (Tryd.prog.info? 105).map (fun i => (i.zero, i.size, i.bytes)) = some (some (.agg #[(.int .i64 0), (.slice none 0 0)]), 2, 32) := by kernel_rfl
theorem inf159 : (Tryd.prog.info? 159).map (fun i => (i.zero, i.size, i.bytes)) = some (some (.agg #[(.int .u8 0), (.int .u8 0)]), 2, 2) := by kernel_rfl
theorem inf188 : (Tryd.prog.info? 188).map (fun i => (i.zero, i.size, i.bytes)) = some (some (.agg #[(.int .i32 0), (.int .i32 0), (.int .i32 0), (.int .i32 0)]), 4, 16) := by kernel_rfl
end Go.Proofs.YtiminmnmeknioaaDoor
/- crc and its page: copies, sums. -/
set_option linter.unusedVariables false
namespace Go.Proofs.YtiminmnmeknioaaDoor
open Go Go.RowKit






/-  A copy, as a row that may grow. -/
def PRow (e : TypeId) (xs : List UInt8) : Value → Res → Prop := fun v r => r = rowR e 1 v xs.length (xs.map vu8)





theorem CopyBytes_calls (w : World) (v : Value) (xs : List UInt8) (hx : BA w v xs) (hs : xs.length ≤ 140737488355328) : Calls Tryd.prog 17 #[v] w (Ret w (PB xs)) := by
  obtain ⟨A, c, rfl, h1, h2, h3⟩ := hx.form
  refine calls_of_C Tryd.func17 rfl Tryd.ntmps17 (Nat.le_of_ble_eq_true rfl) ?_
  refine C.less (L' := [(0, _)]) ?_ (Sub.cons rfl (Sub.nil _)) (fun w h => h)
  refine C.seq ?_
  refine C.region ?_
  refine J.asg rfl rfl rfl rfl rfl ?_
  refine J.nil ?_
  refine C.seq ?_
  refine C.region ?_
  refine J.asg rfl rfl rfl rfl rfl ?_
  refine J.nil ?_
  refine C.seq ?_
  refine C.region ?_
  refine J.move rfl rfl rfl rfl rfl ?_
  refine J.move rfl rfl rfl rfl rfl ?_
  refine J.app0 rfl rfl rfl rfl rfl rfl Tryd.underlying22 inf5 rfl rfl rfl (by simp) (fun w h hn => srcB (h.ba hx) hn) (all_u8 xs) (by omega) (fun v6 => ?_)
  refine J.asg rfl rfl rfl rfl rfl ?_
  refine J.nil ?_
  refine C.ret ?_
  exact fin1 rfl (RV.tmp rfl) (fun w' h => retRow h rfl)

theorem u32_crc {P : Program} {w : World} {t : TypeId} (c : UInt32) : (binOp .xor t (vu32 (c >>> UInt32.ofNat 4)) (vu32 (crc4 (c &&& 15)))).run P w = .ok (vu32 (crc4 c)) w := by
  rw [u32_xor, crc4_shift c]; rfl
theorem nib_get (i : UInt32) : (nibCells 16)[(i &&& 15).toNat]? = some (vu32 (crc4 (i &&& 15))) := by
  have h : (i &&& 15).toNat < 16 := by
    rw [UInt32.toNat_and]; exact Nat.lt_of_le_of_lt (Nat.and_le_right) (by decide)
  simp only [nibCells, List.getElem?_toArray, List.getElem?_map, List.getElem?_range h, Option.map_some, if_pos h, nib, UInt32.ofNat_toNat]
theorem nib_get' (i : UInt32) : (nibCells 16)[0 + (((i &&& 15).toNat : Nat) : Int).toNat * 1]? = some (vu32 (crc4 (i &&& 15))) := by
  rw [Int.toNat_natCast, Nat.mul_one, Nat.zero_add]; exact nib_get i
theorem Extend_calls (w : World) (c : UInt32) (v : Value) (xs : List UInt8) (hx : BA w v xs) (hs : xs.length ≤ 140737488355328) : Calls Tryd.prog 65 #[vu32 c, v] w (Ret0 w (vu32 (crcExt c xs))) := by
  obtain ⟨A, cc, rfl, h1, h2, h3⟩ := hx.form
  refine calls_of_C Tryd.func65 rfl Tryd.ntmps65 (Nat.le_of_ble_eq_true rfl) ?_
  refine C.less (L' := [(0, _), (1, _)]) ?_ (Sub.cons rfl (Sub.cons rfl (Sub.nil _))) (fun w h => h)
  refine C.seq ?_
  refine C.region ?_
  refine J.asg rfl rfl rfl rfl rfl ?_
  refine J.nil ?_
  refine C.seq ?_
  refine C.region ?_
  have one16 := nibCells_one 16
  refine J.call0 rfl rfl rfl rfl rfl Tryd.call82 (fun w h => nibbles_calls w) ?_
  refine J.allocc rfl rfl rfl rfl Tryd.zeroValue141 rfl (fun b5 => ?_)
  first | refine J.stwc 0 rfl rfl rfl rfl rfl rfl Tryd.sizeOf141 (by first | rfl | assumption | simp [Value.cells, Value.oneCell']) rfl rfl ?_ | refine J.stw 0 rfl rfl rfl rfl rfl rfl Tryd.sizeOf141 (by first | rfl | assumption | simp [Value.cells, Value.oneCell']) rfl rfl ?_
  refine J.nil ?_
  refine C.seq ?_
  refine C.region ?_
  refine J.move rfl rfl rfl rfl rfl ?_
  refine J.un rfl rfl rfl rfl rfl (fun w => u32_not _) ?_
  refine J.asg rfl rfl rfl rfl rfl ?_
  refine J.nil ?_
  refine C.seq ?_
  refine C.seq ?_
  refine C.region ?_
  refine J.move rfl rfl rfl rfl rfl ?_
  refine J.len rfl rfl rfl rfl rfl Tryd.runUnderlying22 ?_
  refine J.move rfl rfl rfl rfl rfl ?_
  refine J.nil ?_
  refine C.block ?_
  refine C.loop (fun i : Nat => i ≤ xs.length) (fun i => [(0, vu32 ((xs.take i).foldl crcByte (~~~ c))), (5, .pointer (some ⟨b5, 0, none⟩)), (11, .slice A xs.length cc), (12, .int .i64 (xs.length : Int)), (13, .int .i64 (i : Int))]) (fun i => [blk b5 (nibCells 16) 141]) (fun i => xs.length - i) 0 (by omega) ?_ ?_ ?_
  · exact (Sub.cons rfl (Sub.cons rfl (Sub.cons rfl (Sub.cons rfl (Sub.cons rfl (Sub.nil _))))))
  · exact fun w h => h
  intro i hi
  refine C.seq ?_
  refine C.region ?_
  refine J.bin rfl rfl rfl rfl rfl rfl (fun w => rfl) ?_
  refine J.nil ?_
  refine C.seq ?_
  refine C.cond rfl (fun h => ?_) (fun h => ?_)
  · have hlt : i < xs.length := by have := of_decide_eq_true h; omega
    obtain ⟨b, o, rfl, hb, hcell⟩ := h3 (by omega)
    have hb8 := xs[i].toNat_lt
    have hn1 : ∀ x : UInt32, (x &&& 15).toNat < 16 := fun x => by rw [UInt32.toNat_and]; exact Nat.lt_of_le_of_lt (Nat.and_le_right) (by decide)
    have hq1 := hn1 ((xs.take i).foldl crcByte (~~~ c) ^^^ xs[i].toUInt32)
    have hq2 := hn1 (crc4 ((xs.take i).foldl crcByte (~~~ c) ^^^ xs[i].toUInt32))
    refine C.skip ?_
    refine C.seq ?_
    refine C.block ?_
    refine C.seq ?_
    refine C.region ?_
    first | refine J.idx1 rfl rfl rfl rfl rfl rfl Tryd.runUnderlying22 Tryd.sizeOf5 (by omega) ?_ | refine J.idx rfl rfl rfl rfl rfl rfl Tryd.runUnderlying22 Tryd.sizeOf5 (by omega) ?_
    refine J.ld rfl rfl rfl rfl rfl Tryd.isAgg5 (fun w h => cellOld h (hcell i xs[i] (by simp))) ?_
    refine J.asg rfl rfl rfl rfl rfl ?_
    refine J.nil ?_
    refine C.seq ?_
    refine C.region ?_
    refine J.move rfl rfl rfl rfl rfl ?_
    refine J.move rfl rfl rfl rfl rfl ?_
    refine J.conv rfl rfl rfl rfl rfl Tryd.runUnderlying5 Tryd.runUnderlying87 (by first | exact cw_u8_u32 _ | exact IntWalk.u32_in _ (by omega)) ?_
    refine J.bin rfl rfl rfl rfl rfl rfl (fun w => u32_xor _ xs[i].toUInt32) ?_
    refine J.asg rfl rfl rfl rfl rfl ?_
    refine J.nil ?_
    refine C.seq ?_
    refine C.region ?_
    refine J.move rfl rfl rfl rfl rfl ?_
    refine J.bin rfl rfl rfl rfl rfl rfl (fun w => u32_shr _ 4 (by omega)) ?_
    refine J.move rfl rfl rfl rfl rfl ?_
    refine J.bin rfl rfl rfl rfl rfl rfl (fun w => u32_and _ 15) ?_
    refine J.idxa rfl rfl rfl rfl rfl rfl Tryd.runUnderlying141 Tryd.sizeOf87 (by omega) ?_
    refine J.ld rfl rfl rfl rfl rfl Tryd.isAgg87 (fun w h => cellO h 0 rfl (nib_get' _)) ?_
    refine J.bin rfl rfl rfl rfl rfl rfl (fun w => u32_crc _) ?_
    refine J.asg rfl rfl rfl rfl rfl ?_
    refine J.nil ?_
    refine C.region ?_
    refine J.move rfl rfl rfl rfl rfl ?_
    refine J.bin rfl rfl rfl rfl rfl rfl (fun w => u32_shr _ 4 (by omega)) ?_
    refine J.move rfl rfl rfl rfl rfl ?_
    refine J.bin rfl rfl rfl rfl rfl rfl (fun w => u32_and _ 15) ?_
    refine J.idxa rfl rfl rfl rfl rfl rfl Tryd.runUnderlying141 Tryd.sizeOf87 (by omega) ?_
    refine J.ld rfl rfl rfl rfl rfl Tryd.isAgg87 (fun w h => cellO h 0 rfl (nib_get' _)) ?_
    refine J.bin rfl rfl rfl rfl rfl rfl (fun w => u32_crc _) ?_
    refine J.asg rfl rfl rfl rfl rfl ?_
    refine J.nil ?_
    refine C.region ?_
    refine J.bin rfl rfl rfl rfl rfl rfl (fun w => ra_add (by omega)) ?_
    refine J.move rfl rfl rfl rfl rfl ?_
    refine J.nil ?_
    refine ⟨rfl, i + 1, by omega, by omega, Sub.cons ?_ (Sub.cons rfl (Sub.cons rfl (Sub.cons rfl (Sub.cons rfl (Sub.nil _))))), fun w h => h⟩
    rw [List.take_succ_eq_append_getElem hlt, List.foldl_append]
    rfl
  · have hge : i = xs.length := by have := of_decide_eq_false h; omega
    subst hge
    refine C.exit rfl ?_
    refine C.seq ?_
    refine C.region ?_
    refine J.move rfl rfl rfl rfl rfl ?_
    refine J.un rfl rfl rfl rfl rfl (fun w => u32_not _) ?_
    refine J.asg rfl rfl rfl rfl rfl ?_
    refine J.nil ?_
    refine C.ret ?_
    exact fin1 rfl (RV.tmp rfl) (fun w' h => by rw [List.take_length]; exact h.ret0)
theorem Sum_calls (w : World) (v : Value) (xs : List UInt8) (hx : BA w v xs) (hs : xs.length ≤ 140737488355328) : Calls Tryd.prog 46 #[v] w (Ret0 w (vu32 (crcSum xs))) := by
  refine calls_of_C Tryd.func46 rfl Tryd.ntmps46 (Nat.le_of_ble_eq_true rfl) ?_
  refine C.less (L' := [(0, _)]) ?_ (Sub.cons rfl (Sub.nil _)) (fun w h => h)
  refine C.seq ?_
  refine C.region ?_
  refine J.asg rfl rfl rfl rfl rfl ?_
  refine J.nil ?_
  refine C.seq ?_
  refine C.region ?_
  refine J.move rfl rfl rfl rfl rfl ?_
  refine J.call0 rfl rfl rfl rfl rfl Tryd.call65 (fun w h => Extend_calls w 0 _ xs (h.ba hx) hs) ?_
  refine J.asg rfl rfl rfl rfl rfl ?_
  refine J.nil ?_
  refine C.ret ?_
  exact fin1 rfl (RV.tmp rfl) (fun w' h => h.ret0)































































end Go.Proofs.YtiminmnmeknioaaDoor

