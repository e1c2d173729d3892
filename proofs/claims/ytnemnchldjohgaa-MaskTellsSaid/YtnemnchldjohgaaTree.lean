/- A region that draws its order and makes memory in more than one order: a tree of orders. -/
import Derived.Test.YtnemnchldjohgaaReg
set_option linter.unusedVariables false
namespace Go.Proofs.Ytnemnchldjohgaa
open Go.RowKit
/-- q: number i only looks; c1, c2, c3: one of these is carried out next. -/
inductive Ord where
  | nil
  | q (i : Nat) (r : Ord)
  | c1 (i : Nat) (r : Ord)
  | c2 (i : Nat) (r : Ord) (j : Nat) (s : Ord)
  | c3 (i : Nat) (r : Ord) (j : Nat) (s : Ord) (k : Nat) (t : Ord)
section
variable {P : Program} {ops : Array Oper} {Q : Exit → Act → World → Prop} {S : World → Prop} {md : Region.Mode}
def Does (P : Program) (ops : Array Oper) (Q : Exit → Act → World → Prop) (S : World → Prop) (i : Nat) (K : Act → World → Prop) (a : Act) (w : World) : Prop :=
  ∃ o, ops[i]? = some o ∧ Region.wanted o (yielded ops a.tmps) = true ∧ o.wp P a w (fun a' w' => S w' ∧ K a' w') Q
def Tree (P : Program) (ops : Array Oper) (Q : Exit → Act → World → Prop) (S : World → Prop) : Ord → Act → World → Prop
  | .nil, a, w => Q .normal a w
  | .q i r, a, w => ∃ o v, ops[i]? = some o ∧ YieldsIf P ops S o v a ∧ Tree P ops Q S r (a.put o.dst v) w
  | .c1 i r, a, w => Does P ops Q S i (Tree P ops Q S r) a w
  | .c2 i r j s, a, w => Does P ops Q S i (Tree P ops Q S r) a w ∧ Does P ops Q S j (Tree P ops Q S s) a w
  | .c3 i r j s k t, a, w => Does P ops Q S i (Tree P ops Q S r) a w ∧ Does P ops Q S j (Tree P ops Q S s) a w ∧ Does P ops Q S k (Tree P ops Q S t) a w
def okTree (md : Region.Mode) (ops : Array Oper) : Nat → Ord → Array Bool → Bool
  | _, .nil, l => (Region.ready md ops l).isEmpty
  | 0, _, _ => false
  | n + 1, .q i r, l => Region.free md ops l i && (Region.ready md ops l).contains i && okTree md ops n r (l.setIfInBounds i true)
  | n + 1, .c1 i r, l => (Region.ready md ops l == [i]) && okTree md ops n r (l.setIfInBounds i true)
  | n + 1, .c2 i r j s, l => (Region.ready md ops l == [i, j]) && okTree md ops n r (l.setIfInBounds i true) && okTree md ops n s (l.setIfInBounds j true)
  | n + 1, .c3 i r j s k t, l => (Region.ready md ops l == [i, j, k]) && okTree md ops n r (l.setIfInBounds i true) && okTree md ops n s (l.setIfInBounds j true) && okTree md ops n t (l.setIfInBounds k true)
theorem Does.wpOp {i : Nat} {K K' : Act → World → Prop} {a : Act} {w : World} (h : Does P ops Q S i K a w) (hK : ∀ a w, S w → K a w → K' a w) : wpOp P ops Q i (fun a' w' => S w' ∧ K' a' w') a w := by
  obtain ⟨o, hi, hw, h⟩ := h
  unfold Go.wpOp
  rw [hi]
  simp only [hw, if_true]
  exact .inl (Oper.wp_mono (fun a' w' ⟨hS', h'⟩ => ⟨hS', hK _ _ hS' h'⟩) h)
theorem Tree.any (hs : Region.noSelect ops = true) (hQ : ∀ d v c a w, Q (.panic c) (Act.put a d v) w → Q (.panic c) a w) : ∀ (n : Nat) (σ : Ord) (l : Array Bool) (a : Act) (w : World), okTree md ops n σ l = true → S w → Tree P ops Q S σ a w → wpAnyH P md ops Q S n l a w
  | n, .nil, l, a, w, hok, _, h => wpAnyH_done (by cases n <;> simpa [okTree] using hok) h n
  | 0, .q _ _, _, _, _, hok, _, _ => by simp [okTree] at hok
  | 0, .c1 _ _, _, _, _, hok, _, _ => by simp [okTree] at hok
  | 0, .c2 _ _ _ _, _, _, _, hok, _, _ => by simp [okTree] at hok
  | 0, .c3 _ _ _ _ _ _, _, _, _, hok, _, _ => by simp [okTree] at hok
  | n + 1, .q i r, l, a, w, hok, hS, h => by
    simp only [okTree, Bool.and_eq_true] at hok
    obtain ⟨⟨hf, hr⟩, hok'⟩ := hok
    obtain ⟨o, v, hi, hy, h⟩ := h
    exact wpAnyH_take hi hs hf hr (hQ _ _) hy hS (Tree.any hs hQ n r _ _ _ hok' hS h)
  | n + 1, .c1 i r, l, a, w, hok, hS, h => by
    simp only [okTree, Bool.and_eq_true] at hok
    obtain ⟨hr, h1⟩ := hok
    refine wpAnyH_all (rs := [i]) (by simpa using hr) (by simp) fun x hx => ?_
    simp only [List.mem_singleton] at hx
    subst hx
    exact Does.wpOp h fun a w hS h => Tree.any hs hQ n r _ a w h1 hS h
  | n + 1, .c2 i r j s, l, a, w, hok, hS, h => by
    simp only [okTree, Bool.and_eq_true] at hok
    obtain ⟨⟨hr, h1⟩, h2⟩ := hok
    obtain ⟨g1, g2⟩ := h
    refine wpAnyH_all (rs := [i, j]) (by simpa using hr) (by simp) fun x hx => ?_
    simp only [List.mem_cons, List.not_mem_nil, or_false] at hx
    rcases hx with rfl | rfl
    · exact Does.wpOp g1 fun a w hS h => Tree.any hs hQ n r _ a w h1 hS h
    · exact Does.wpOp g2 fun a w hS h => Tree.any hs hQ n s _ a w h2 hS h
  | n + 1, .c3 i r j s k t, l, a, w, hok, hS, h => by
    simp only [okTree, Bool.and_eq_true] at hok
    obtain ⟨⟨⟨hr, h1⟩, h2⟩, h3⟩ := hok
    obtain ⟨g1, g2, g3⟩ := h
    refine wpAnyH_all (rs := [i, j, k]) (by simpa using hr) (by simp) fun x hx => ?_
    simp only [List.mem_cons, List.not_mem_nil, or_false] at hx
    rcases hx with rfl | rfl | rfl
    · exact Does.wpOp g1 fun a w hS h => Tree.any hs hQ n r _ a w h1 hS h
    · exact Does.wpOp g2 fun a w hS h => Tree.any hs hQ n s _ a w h2 hS h
    · exact Does.wpOp g3 fun a w hS h => Tree.any hs hQ n t _ a w h3 hS h
theorem region_tree {id : Nat} {a : Act} {w : World} (σ : Ord) (hm : P.follows .mixedOrders = true) (hs : Region.noSelect ops = true) (hok : okTree .any ops ops.size σ (Array.replicate ops.size false) = true)
    (hQ : ∀ d v c a w, Q (.panic c) (Act.put a d v) w → Q (.panic c) a w) (S : World → Prop) (hS : S w.drew) (h : Tree P ops Q S σ a w.drew) : (Code.region id ops true).wp P Q a w :=
  wp_region_held hm (Tree.any hs hQ ops.size σ _ a w.drew hok hS h)
variable {i : Nat} {r : Ord} {a : Act} {w : World} {K : Act → World → Prop}
theorem Tree.load (dst : Option Tmp) (guard : Option (Nat × Bool)) (ty : TypeId) (x : Operand) (g : Nat) (cs : Array Value) (t : TypeId) (d : TypeDesc) (hi : At ops i dst (.load ty x) guard) (hw : lets ops a guard = true) (hx : a.eval x = .pointer (some ⟨g, 0, none⟩))
    (hS : ∀ w', S w' → Blk g cs t w') (hu : P.underlying ty = some d) (hd : (match d with | .struct _ | .array _ _ => true | _ => false) = true) (hz : (P.info? ty).map (·.size) = some cs.size)
    (h : Tree P ops Q S r (a.put dst (.agg cs)) w) : Tree P ops Q S (.q i r) a w := by
  obtain ⟨o, ho, rfl, hop, rfl⟩ := hi.get
  refine ⟨o, _, ho, .inl ⟨lets_wanted true hw, fun w' hw' => ?_⟩, h⟩
  unfold execOp
  simp only [hop, hx, Instr.loadAt, Instr.sureAddr, Sem.run_bind, Sem.run_pure, Result.andThen_ok, run_loadVar_row w' g t ty cs (0, 0) d (hS w' hw') hu hd hz]
theorem Does.call (dst : Option Tmp) (guard : Option (Nat × Bool)) (f : FuncId) (xs : Array Operand) (ats : Array TypeId) (vs : Array Value) (hi : At ops i dst (.call { callee := .value (.func f), args := xs, argTypes := ats }) guard) (hw : lets ops a guard = true)
    (hv : xs.toList.map a.eval = vs.toList) (hf : ∀ w', (callFunc f vs).run P w' = .ok (.enter f vs) w') (h : Calls P f vs w fun e w' => ∃ v, e = .returned v ∧ S w' ∧ K (a.put dst v) w') : Does P ops Q S i K a w := by
  obtain ⟨o, ho, rfl, hop, rfl⟩ := hi.get
  refine ⟨o, ho, lets_wanted true hw, ?_⟩
  have he : execOp a.eval o = callFunc f vs := by
    obtain ⟨dst, op, ty, pos, after, guard⟩ := o
    simp only at hop
    subst hop
    have hv' : xs.map a.eval = vs := Array.toList_inj.1 (by rw [Array.toList_map]; exact hv)
    rw [execOp_call_go, hv']
    simp
  unfold Oper.wp
  rw [he, hf w]
  exact h.mono fun e w' ⟨v, e1, h1, h2⟩ => by subst e1; exact ⟨h1, h2⟩
theorem Does.alloc (dst : Option Tmp) (guard : Option (Nat × Bool)) (t : TypeId) (z : Value) (hi : At ops i dst (.alloc t) guard) (hw : lets ops a guard = true) (hz : (P.info? t).map (·.zero) = some (some z))
    (h : S (w.alloc (.cells z.cells t)) ∧ K (a.put dst (.pointer (some ⟨w.heap.size, 0, none⟩))) (w.alloc (.cells z.cells t))) : Does P ops Q S i K a w := by
  obtain ⟨o, ho, rfl, hop, rfl⟩ := hi.get
  refine ⟨o, ho, lets_wanted true hw, ?_⟩
  obtain ⟨i0, hi0, hzz⟩ := Option.map_eq_some_iff.1 hz
  unfold Oper.wp execOp
  have : (Instr.alloc t true (.tuple #[])).run P w = .ok (.pointer (some ⟨w.heap.size, 0, none⟩)) (w.alloc (.cells z.cells t)) := by
    simp [Instr.alloc, zeroValue, typeInfo, hi0, hzz, newVar, newRow, Sem.run_bind]
  simp only [hop, Sem.run_bind, this, Result.andThen_ok, Sem.run_pure]
  exact h
theorem Does.store (guard : Option (Nat × Bool)) (ty : TypeId) (x y : Operand) (g : Nat) (cs ds : Array Value) (t : TypeId) (hi : At ops i none (.store ty x y) guard) (hw : lets ops a guard = true)
    (hx : a.eval x = .pointer (some ⟨g, 0, none⟩)) (hy : a.eval y = .agg ds) (hb : Blk g cs t w) (hs : cs.size = ds.size) (hi' : (P.info? ty).map (·.size) = some ds.size) (h1 : ds.all (·.oneCell') = true)
    (h : ∀ w', Blk g ds t w' → w.grownBy w' (some g) → w'.heap.size = w.heap.size → S w' ∧ K a w') : Does P ops Q S i K a w := by
  obtain ⟨o, ho, hd, hop, rfl⟩ := hi.get
  refine ⟨o, ho, lets_wanted true hw, ?_⟩
  obtain ⟨g1, g2⟩ := grown_setCells w g ds.toList 0
  refine wp_store_mid ty x y hop g 0 ds hx hy (by have := hb.there; rwa [hs] at this) hi' h1 ?_
  rw [hd]
  exact h _ (setCells_toList cs ds hs w g t hb) g1 g2
end
end Go.Proofs.Ytnemnchldjohgaa
