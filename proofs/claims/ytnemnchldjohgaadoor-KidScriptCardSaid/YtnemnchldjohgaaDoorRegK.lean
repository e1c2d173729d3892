/- More steps for a region that is walked once. -/
import Derived.Test.YtnemnchldjohgaaDoorReg
import Derived.Test.YtnemnchldjohgaaDoorKidBase
set_option linter.unusedVariables false
namespace Go.Proofs.YtnemnchldjohgaaDoor
open Go.RowKit
theorem folm : Tryd.prog.follows .mixedOrders = true := by kernel_rfl
section
variable {P : Program} {ops : Array Oper} {Q : Exit → Act → World → Prop} {S : World → Prop} {i : Nat} {r : List (Nat × Bool)} {a : Act} {w : World}
theorem Fin.nil (dst : Option Tmp) (guard : Option (Nat × Bool)) (x : Operand) (ad : Addr) (hi : At ops i dst (.nilCheck x) guard) (hw : lets ops a guard = true) (hx : a.eval x = .pointer (some ad)) (h : Fin P ops Q S r (a.put dst (.pointer (some ad))) w) : Fin P ops Q S ((i, true) :: r) a w := by
  obtain ⟨o, ho, rfl, hop, rfl⟩ := hi.get
  refine ⟨o, _, ho, .inl ⟨lets_wanted true hw, fun w' _ => ?_⟩, h⟩
  unfold execOp
  simp only [hop, hx, Sem.run_pure]
theorem Fin.fld (dst : Option Tmp) (guard : Option (Nat × Bool)) (t : TypeId) (x : Operand) (f : Nat) (vx v : Value) (hi : At ops i dst (.fieldAddr t x f) guard) (hw : lets ops a guard = true) (hx : a.eval x = vx)
    (hr : ∀ w', (Instr.fieldAt t vx f).run P w' = .ok v w') (h : Fin P ops Q S r (a.put dst v) w) : Fin P ops Q S ((i, true) :: r) a w := by
  obtain ⟨o, ho, rfl, hop, rfl⟩ := hi.get
  refine ⟨o, v, ho, .inl ⟨lets_wanted true hw, fun w' hw' => ?_⟩, h⟩
  unfold execOp
  simp only [hop, hx, Sem.run_bind, hr w', Result.andThen_ok, Sem.run_pure]
/-- A part of a value of several. -/
theorem Fin.ext (dst : Option Tmp) (guard : Option (Nat × Bool)) (x : Operand) (k : Nat) (vs : Array Value) (v : Value) (hi : At ops i dst (.extract x k) guard) (hw : lets ops a guard = true) (hx : a.eval x = .tuple vs) (hv : vs[k]? = some v) (h : Fin P ops Q S r (a.put dst v) w) : Fin P ops Q S ((i, true) :: r) a w := by
  obtain ⟨o, ho, rfl, hop, rfl⟩ := hi.get
  refine ⟨o, v, ho, .inl ⟨lets_wanted true hw, fun w' hw' => ?_⟩, h⟩
  unfold execOp
  simp [hop, hx, Instr.extract, hv, Sem.run_bind, Sem.run_pure]
/-- A load that nothing else stands beside. -/
theorem Fin.loadL (dst : Option Tmp) (guard : Option (Nat × Bool)) (ty : TypeId) (x : Operand) (vx v : Value) (hi : At ops i dst (.load ty x) guard) (hw : lets ops a guard = true) (hx : a.eval x = vx)
    (hr : (Instr.loadAt ty vx).run P w = .ok v w) (hS : S w) (h : Fin P ops Q S r (a.put dst v) w) : Fin P ops Q S ((i, false) :: r) a w := by
  obtain ⟨o, ho, rfl, hop, rfl⟩ := hi.get
  refine ⟨o, ho, lets_wanted true hw, ?_⟩
  unfold Oper.wp execOp
  simp only [hop, hx, Sem.run_bind, hr, Result.andThen_ok, Sem.run_pure]
  exact ⟨hS, h⟩
theorem Fin.sto (guard : Option (Nat × Bool)) (ty : TypeId) (x y : Operand) (vx vy : Value) (w1 : World) (hi : At ops i none (.store ty x y) guard) (hw : lets ops a guard = true) (hx : a.eval x = vx) (hy : a.eval y = vy)
    (hr : (Instr.storeAt ty vx vy).run P w = .ok () w1) (hS : S w1) (h : Fin P ops Q S r a w1) : Fin P ops Q S ((i, false) :: r) a w := by
  obtain ⟨o, ho, hd, hop, rfl⟩ := hi.get
  refine ⟨o, ho, lets_wanted true hw, ?_⟩
  unfold Oper.wp execOp
  simp only [hop, hx, hy, Sem.run_bind, hr, Result.andThen_ok, Sem.run_pure]
  exact ⟨hS, by have : a.put o.dst undef = a := by rw [hd]; rfl
                first | exact h | (show Fin P ops Q S r (a.put o.dst undef) w1; rw [this]; exact h)⟩
end
theorem run_loadMask (g q : Nat) (M : Nat → Bool) (H : Nat → Nat) (t : TypeId) (w : World) (hb : Blk g (nd q M H) t w) : (Instr.loadAt 49 (.pointer (some ⟨g, 1, none⟩))).run Tryd.prog w = .ok (.agg (mk4 M)) w := by
  rw [run_loadAt_mid w g 1 49 (mk4 M).toList _ (nd_maskRange hb) Tryd.underlying49 rfl (by rw [infoM]; rfl), Array.toArray_toList]
theorem run_storeMask (g q : Nat) (M M' : Nat → Bool) (H : Nat → Nat) (t : TypeId) (w : World) (hb : Blk g (nd q M H) t w) : (Instr.storeAt 49 (.pointer (some ⟨g, 1, none⟩)) (.agg (mk4 M'))).run Tryd.prog w = .ok () (w.setCells g 1 (mk4 M').toList) :=
  run_storeAt_mid w g 1 49 (mk4 M') (by rw [mk4_size]; exact nd_maskThere hb) (by rw [mk4_size]; exact infoM) (mk4_one M')
end Go.Proofs.YtnemnchldjohgaaDoor
