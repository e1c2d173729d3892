/- A region that draws its order, walked once: what only looks is taken first, what makes memory comes in its turn. -/
import Derived.Test.YtnemnchldjohgaaDoorSx
import Derived.OrdersHeld
import Derived.BigRegion
set_option linter.unusedVariables false
namespace Go.Proofs.YtnemnchldjohgaaDoor
open Go.RowKit
section
variable {P : Program} {ops : Array Oper} {Q : Exit → Act → World → Prop} {S : World → Prop} {md : Region.Mode}
/-- One order of the operations: (i, true): number i only looks (or is passed over); (i, false): it is carried out. -/
def Fin (P : Program) (ops : Array Oper) (Q : Exit → Act → World → Prop) (S : World → Prop) : List (Nat × Bool) → Act → World → Prop
  | [], a, w => Q .normal a w
  | (i, true) :: r, a, w => ∃ o v, ops[i]? = some o ∧ YieldsIf P ops S o v a ∧ Fin P ops Q S r (a.put o.dst v) w
  | (i, false) :: r, a, w => ∃ o, ops[i]? = some o ∧ Region.wanted o (yielded ops a.tmps) = true ∧ o.wp P a w (fun a' w' => S w' ∧ Fin P ops Q S r a' w') Q
def okSeq (md : Region.Mode) (ops : Array Oper) : List (Nat × Bool) → Array Bool → Bool
  | [], l => (Region.ready md ops l).isEmpty
  | (i, true) :: r, l => Region.free md ops l i && (Region.ready md ops l).contains i && okSeq md ops r (l.setIfInBounds i true)
  | (i, false) :: r, l => (Region.ready md ops l == [i]) && okSeq md ops r (l.setIfInBounds i true)
theorem Fin.any (hs : Region.noSelect ops = true) (hQ : ∀ d v c a w, Q (.panic c) (Act.put a d v) w → Q (.panic c) a w) : ∀ (σ : List (Nat × Bool)) (l : Array Bool) (a : Act) (w : World), okSeq md ops σ l = true → S w → Fin P ops Q S σ a w → wpAnyH P md ops Q S σ.length l a w
  | [], l, a, w, hok, _, h => ⟨by simpa [okSeq] using hok, h⟩
  | (i, true) :: r, l, a, w, hok, hS, h => by
    simp only [okSeq, Bool.and_eq_true] at hok
    obtain ⟨⟨hf, hr⟩, hok'⟩ := hok
    obtain ⟨o, v, hi, hy, h⟩ := h
    exact wpAnyH_take hi hs hf hr (hQ _ _) hy hS (Fin.any hs hQ r _ _ _ hok' hS h)
  | (i, false) :: r, l, a, w, hok, hS, h => by
    simp only [okSeq, Bool.and_eq_true] at hok
    obtain ⟨hr, hok'⟩ := hok
    obtain ⟨o, hi, hw, h⟩ := h
    refine wpAnyH_all (rs := [i]) (by simpa using hr) (by simp) fun j hj => ?_
    obtain rfl : j = i := by simpa using hj
    unfold wpOp
    rw [hi]
    simp only [hw, if_true]
    exact .inl (Oper.wp_mono (fun a' w' ⟨hS', h'⟩ => ⟨hS', Fin.any hs hQ r _ _ _ hok' hS' h'⟩) h)
theorem region_fin {id : Nat} {a : Act} {w : World} (σ : List (Nat × Bool)) (hm : P.follows .mixedOrders = true) (hs : Region.noSelect ops = true) (hlen : σ.length = ops.size) (hok : okSeq .any ops σ (Array.replicate ops.size false) = true)
    (hQ : ∀ d v c a w, Q (.panic c) (Act.put a d v) w → Q (.panic c) a w) (S : World → Prop) (hS : S w.drew) (h : Fin P ops Q S σ a w.drew) : (Code.region id ops true).wp P Q a w :=
  wp_region_held hm (by rw [← hlen]; exact Fin.any hs hQ σ _ a w.drew (by rw [hlen]; exact hok) hS h)
variable {i : Nat} {r : List (Nat × Bool)} {a : Act} {w : World}
/-- What stands at number i. -/
def At (ops : Array Oper) (i : Nat) (dst : Option Tmp) (op : Op) (guard : Option (Nat × Bool)) : Prop := (ops[i]?).map (fun o => (o.dst, o.op, o.guard)) = some (dst, op, guard)
/-- Does its guard let it by? -/
def lets (ops : Array Oper) (a : Act) : Option (Nat × Bool) → Bool
  | none => true
  | some (j, want) => yielded ops a.tmps j == some want
theorem At.get {dst : Option Tmp} {op : Op} {guard : Option (Nat × Bool)} (h : At ops i dst op guard) : ∃ o : Oper, ops[i]? = some o ∧ o.dst = dst ∧ o.op = op ∧ o.guard = guard := by
  unfold At at h
  cases ho : ops[i]? with
  | none => rw [ho] at h; simp at h
  | some o =>
    rw [ho] at h
    simp only [Option.map_some, Option.some.injEq, Prod.mk.injEq] at h
    exact ⟨o, rfl, h.1, h.2.1, h.2.2⟩
theorem lets_wanted {o : Oper} (b : Bool) (h : lets ops a o.guard = b) : Region.wanted o (yielded ops a.tmps) = b := by
  unfold Region.wanted
  unfold lets at h
  cases hg : o.guard with
  | none => rw [hg] at h; exact h
  | some p => obtain ⟨j, want⟩ := p; rw [hg] at h; exact h
theorem Fin.mv (dst : Option Tmp) (guard : Option (Nat × Bool)) (x : Operand) (v : Value) (hi : At ops i dst (.move x) guard) (hw : lets ops a guard = true) (hv : a.eval x = v) (h : Fin P ops Q S r (a.put dst v) w) : Fin P ops Q S ((i, true) :: r) a w := by
  obtain ⟨o, ho, rfl, hop, rfl⟩ := hi.get
  exact ⟨o, v, ho, .inl ⟨lets_wanted true hw, fun w' _ => by rw [← hv]; exact BigFrame.run_move x hop w'⟩, h⟩
theorem Fin.asg (dst : Option Tmp) (guard : Option (Nat × Bool)) (x : Operand) (v : Value) (hi : At ops i dst (.assign x) guard) (hw : lets ops a guard = true) (hv : a.eval x = v) (h : Fin P ops Q S r (a.put dst v) w) : Fin P ops Q S ((i, true) :: r) a w := by
  obtain ⟨o, ho, rfl, hop, rfl⟩ := hi.get
  exact ⟨o, v, ho, .inl ⟨lets_wanted true hw, fun w' _ => by rw [← hv]; exact BigFrame.run_assign x hop w'⟩, h⟩
theorem Fin.skip (dst : Option Tmp) (op : Op) (guard : Option (Nat × Bool)) (hi : At ops i dst op guard) (hw : lets ops a guard = false) (h : Fin P ops Q S r (a.put dst undef) w) : Fin P ops Q S ((i, true) :: r) a w := by
  obtain ⟨o, ho, rfl, hop, rfl⟩ := hi.get
  exact ⟨o, undef, ho, .inr ⟨lets_wanted false hw, rfl⟩, h⟩
/-- An operator on two values. -/
theorem Fin.bin (dst : Option Tmp) (guard : Option (Nat × Bool)) (bop : BinOp) (t t' : TypeId) (x y : Operand) (vx vy v : Value) (hi : At ops i dst (.binOp bop t x y t') guard) (hw : lets ops a guard = true) (hx : a.eval x = vx) (hy : a.eval y = vy)
    (hr : ∀ w', (eqGuard bop t x y vx vy).run P w' = .ok () w' ∧ (binOp bop t vx vy).run P w' = .ok v w') (h : Fin P ops Q S r (a.put dst v) w) : Fin P ops Q S ((i, true) :: r) a w := by
  obtain ⟨o, ho, rfl, hop, rfl⟩ := hi.get
  refine ⟨o, v, ho, .inl ⟨lets_wanted true hw, fun w' hw' => ?_⟩, h⟩
  unfold execOp
  simp only [hop, hx, hy, Sem.run_bind, (hr w').1, (hr w').2, Result.andThen_ok, Sem.run_pure]
/-- An operator on one value. -/
theorem Fin.un (dst : Option Tmp) (guard : Option (Nat × Bool)) (uop : UnOp) (t : TypeId) (x : Operand) (vx v : Value) (hi : At ops i dst (.unOp uop t x) guard) (hw : lets ops a guard = true) (hx : a.eval x = vx)
    (hr : ∀ w', (Op.unary uop vx).run P w' = .ok v w') (h : Fin P ops Q S r (a.put dst v) w) : Fin P ops Q S ((i, true) :: r) a w := by
  obtain ⟨o, ho, rfl, hop, rfl⟩ := hi.get
  refine ⟨o, v, ho, .inl ⟨lets_wanted true hw, fun w' hw' => ?_⟩, h⟩
  unfold execOp
  simp only [hop, hx, Sem.run_bind, hr w', Result.andThen_ok, Sem.run_pure]
theorem Fin.conv (dst : Option Tmp) (guard : Option (Nat × Bool)) (t t' : TypeId) (x : Operand) (vx v : Value) (hi : At ops i dst (.convert t t' x) guard) (hw : lets ops a guard = true) (hx : a.eval x = vx)
    (hr : ∀ w', S w' → (convert t t' vx).run P w' = .ok v w') (h : Fin P ops Q S r (a.put dst v) w) : Fin P ops Q S ((i, true) :: r) a w := by
  obtain ⟨o, ho, rfl, hop, rfl⟩ := hi.get
  refine ⟨o, v, ho, .inl ⟨lets_wanted true hw, fun w' hw' => ?_⟩, h⟩
  unfold execOp
  simp only [hop, hx, Sem.run_bind, hr w' hw', Result.andThen_ok, Sem.run_pure]
/-- len of a slice. -/
theorem Fin.len (dst : Option Tmp) (guard : Option (Nat × Bool)) (t : TypeId) (x : Operand) (ad : Option Addr) (n c : Nat) (hi : At ops i dst (.call { callee := .builtin .len, args := #[x], argTypes := #[t] }) guard) (hw : lets ops a guard = true) (hx : a.eval x = .slice ad n c)
    (ht : P.underlying t = some (.slice (P.elem t))) (h : Fin P ops Q S r (a.put dst (.int .i64 (n : Int))) w) : Fin P ops Q S ((i, true) :: r) a w := by
  obtain ⟨o, ho, rfl, hop, rfl⟩ := hi.get
  refine ⟨o, _, ho, .inl ⟨lets_wanted true hw, fun w' hw' => ?_⟩, h⟩
  obtain ⟨dst, op, ty, pos, after, guard⟩ := o
  simp only at hop
  subst hop
  rw [BigFrame.execOp_builtin, show (#[x] : Array Operand).map a.eval = #[.slice ad n c] by simp [hx], BigFrame.builtin_len]
  simp only [Sem.run_bind, run_len_slice w' t ty ad n c ht, Result.andThen_ok, Sem.run_pure]
  rfl
/-- The address of an element of an array variable. -/
theorem Fin.ix (dst : Option Tmp) (guard : Option (Nat × Bool)) (t : TypeId) (x y : Operand) (vx vy v : Value) (hi : At ops i dst (.indexAddr t x y) guard) (hw : lets ops a guard = true) (hx : a.eval x = vx) (hy : a.eval y = vy)
    (hr : ∀ w', (Instr.indexAt t vx vy).run P w' = .ok v w') (h : Fin P ops Q S r (a.put dst v) w) : Fin P ops Q S ((i, true) :: r) a w := by
  obtain ⟨o, ho, rfl, hop, rfl⟩ := hi.get
  refine ⟨o, v, ho, .inl ⟨lets_wanted true hw, fun w' hw' => ?_⟩, h⟩
  unfold execOp
  simp only [hop, hx, hy, Sem.run_bind, hr w', Result.andThen_ok, Sem.run_pure]
/-- A choice by a bool that is known. -/
theorem Fin.pick (dst : Option Tmp) (guard : Option (Nat × Bool)) (c x y : Operand) (b : Bool) (v : Value) (hi : At ops i dst (.pick c x y) guard) (hw : lets ops a guard = true) (hc : a.eval c = .bool b) (hv : (if b then a.eval x else a.eval y) = v) (h : Fin P ops Q S r (a.put dst v) w) : Fin P ops Q S ((i, true) :: r) a w := by
  obtain ⟨o, ho, rfl, hop, rfl⟩ := hi.get
  refine ⟨o, v, ho, .inl ⟨lets_wanted true hw, fun w' _ => ?_⟩, h⟩
  unfold execOp
  simp only [hop, hc, asBool, Sem.run_bind, Sem.run_pure, Result.andThen_ok, hv]
/-- A whole value out of a block. -/
theorem Fin.load (dst : Option Tmp) (guard : Option (Nat × Bool)) (ty : TypeId) (x : Operand) (g : Nat) (cs : Array Value) (t : TypeId) (d : TypeDesc) (hi : At ops i dst (.load ty x) guard) (hw : lets ops a guard = true) (hx : a.eval x = .pointer (some ⟨g, 0, none⟩))
    (hS : ∀ w', S w' → Blk g cs t w') (hu : P.underlying ty = some d) (hd : (match d with | .struct _ | .array _ _ => true | _ => false) = true) (hz : (P.info? ty).map (·.size) = some cs.size)
    (h : Fin P ops Q S r (a.put dst (.agg cs)) w) : Fin P ops Q S ((i, true) :: r) a w := by
  obtain ⟨o, ho, rfl, hop, rfl⟩ := hi.get
  refine ⟨o, _, ho, .inl ⟨lets_wanted true hw, fun w' hw' => ?_⟩, h⟩
  unfold execOp
  simp only [hop, hx, Instr.loadAt, Instr.sureAddr, Sem.run_bind, Sem.run_pure, Result.andThen_ok, run_loadVar_row w' g t ty cs (0, 0) d (hS w' hw') hu hd hz]
/-- One cell. -/
theorem Fin.load1 (dst : Option Tmp) (guard : Option (Nat × Bool)) (ty : TypeId) (x : Operand) (ad : Addr) (v : Value) (hi : At ops i dst (.load ty x) guard) (hw : lets ops a guard = true) (hx : a.eval x = .pointer (some ad))
    (hr : ∀ w', S w' → (Instr.loadAt ty (.pointer (some ad))).run P w' = .ok v w')
    (h : Fin P ops Q S r (a.put dst v) w) : Fin P ops Q S ((i, true) :: r) a w := by
  obtain ⟨o, ho, rfl, hop, rfl⟩ := hi.get
  refine ⟨o, _, ho, .inl ⟨lets_wanted true hw, fun w' hw' => ?_⟩, h⟩
  unfold execOp
  simp only [hop, hx, Sem.run_bind, hr w' hw', Result.andThen_ok, Sem.run_pure]
/-- A call of a Go function. -/
theorem Fin.call (dst : Option Tmp) (guard : Option (Nat × Bool)) (f : FuncId) (xs : Array Operand) (ats : Array TypeId) (vs : Array Value) (hi : At ops i dst (.call { callee := .value (.func f), args := xs, argTypes := ats }) guard) (hw : lets ops a guard = true)
    (hv : xs.toList.map a.eval = vs.toList) (hf : ∀ w', (callFunc f vs).run P w' = .ok (.enter f vs) w') (h : Calls P f vs w fun e w' => ∃ v, e = .returned v ∧ S w' ∧ Fin P ops Q S r (a.put dst v) w') : Fin P ops Q S ((i, false) :: r) a w := by
  obtain ⟨o, ho, rfl, hop, rfl⟩ := hi.get
  refine ⟨o, ho, lets_wanted true hw, ?_⟩
  have he : execOp a.eval o = callFunc f vs := by
    obtain ⟨dst, op, ty, pos, after, guard⟩ := o
    simp only at hop
    subst hop
    have hv' : xs.map a.eval = vs := Array.toList_inj.1 (by rw [Array.toList_map]; exact hv)
    rw [execOp_call_go, hv']
    simp
  unfold Oper.wp
  rw [he, hf w]
  exact h.mono fun e w' ⟨v, e1, h1, h2⟩ => by subst e1; exact ⟨h1, h2⟩
end
end Go.Proofs.YtnemnchldjohgaaDoor
