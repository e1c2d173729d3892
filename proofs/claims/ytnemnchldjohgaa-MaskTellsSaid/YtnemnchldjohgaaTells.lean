/- MaskTells: the walk. -/
import Derived.Test.YtnemnchldjohgaaOthers
import Derived.Test.YtnemnchldjohgaaTree
set_option linter.unusedVariables false
set_option linter.unusedSimpArgs false
namespace Go.Proofs.Ytnemnchldjohgaa
open Go.RowKit
theorem Tree.mk1 {P : Program} {ops : Array Oper} {Q : Exit → Act → World → Prop} {S : World → Prop} {i : Nat} {r : Ord} {a : Act} {w : World} (h : Does P ops Q S i (Tree P ops Q S r) a w) : Tree P ops Q S (.c1 i r) a w := h
theorem Tree.mk2 {P : Program} {ops : Array Oper} {Q : Exit → Act → World → Prop} {S : World → Prop} {i j : Nat} {r s : Ord} {a : Act} {w : World} (h : Does P ops Q S i (Tree P ops Q S r) a w) (h2 : Does P ops Q S j (Tree P ops Q S s) a w) : Tree P ops Q S (.c2 i r j s) a w := ⟨h, h2⟩
theorem Tree.mk3 {P : Program} {ops : Array Oper} {Q : Exit → Act → World → Prop} {S : World → Prop} {i j k : Nat} {r s t : Ord} {a : Act} {w : World} (h : Does P ops Q S i (Tree P ops Q S r) a w) (h2 : Does P ops Q S j (Tree P ops Q S s) a w) (h3 : Does P ops Q S k (Tree P ops Q S t) a w) : Tree P ops Q S (.c3 i r j s k t) a w := ⟨h, h2, h3⟩
theorem Tree.mk0 {P : Program} {ops : Array Oper} {Q : Exit → Act → World → Prop} {S : World → Prop} {a : Act} {w : World} (h : Q .normal a w) : Tree P ops Q S .nil a w := h
section
variable {P : Program} {ops : Array Oper} {Q : Exit → Act → World → Prop} {S : World → Prop} {i : Nat} {a : Act} {w : World} {K : Act → World → Prop}
theorem Does.newX (dst : Option Tmp) (guard : Option (Nat × Bool)) (t : TypeId) (cs : Array Value) {B : Nat} {w0 : World} {bs : List (Nat × Array Value × TypeId)} (hS : Sx B w0 bs w) (hi : At ops i dst (.alloc t) guard) (hw : lets ops a guard = true) (hz : (P.info? t).map (·.zero) = some (some (.agg cs)))
    (h : ∀ g w', Sx B w0 ((g, cs, t) :: bs) w' → (∀ p ∈ bs, p.1 < g) → B ≤ g → S w' ∧ K (a.put dst (.pointer (some ⟨g, 0, none⟩))) w') : Does P ops Q S i K a w :=
  Does.alloc dst guard t (.agg cs) hi hw hz (h _ _ (hS.new cs t) (fun p hp => (hS.blk p hp).lt) hS.base)
theorem Does.storeX (guard : Option (Nat × Bool)) (ty : TypeId) (x y : Operand) (g : Nat) (cs ds : Array Value) (t : TypeId) {B : Nat} {w0 : World} {bs : List (Nat × Array Value × TypeId)} (hS : Sx B w0 ((g, cs, t) :: bs) w) (hne : ∀ p ∈ bs, p.1 ≠ g) (hB : B ≤ g) (hi : At ops i none (.store ty x y) guard) (hw : lets ops a guard = true)
    (hx : a.eval x = .pointer (some ⟨g, 0, none⟩)) (hy : a.eval y = .agg ds) (hs : cs.size = ds.size) (hi' : (P.info? ty).map (·.size) = some ds.size) (h1 : ds.all (·.oneCell') = true)
    (h : ∀ w', Sx B w0 ((g, ds, t) :: bs) w' → S w' ∧ K a w') : Does P ops Q S i K a w :=
  Does.store guard ty x y g cs ds t hi hw hx hy (hS.blk (g, cs, t) (List.mem_cons_self ..)) hs hi' h1 fun w' hk hg hz => h w' (((hS.less (cs := bs) fun p hp => List.mem_cons_of_mem _ hp).grown hg hB hne).add hk)
end
theorem Sx.set {B g : Nat} {cs : Array Value} {t : TypeId} {w0 w : World} {bs : List (Nat × Array Value × TypeId)} (h : Sx B w0 ((g, cs, t) :: bs) w) (hB : B ≤ g) (hne : ∀ p ∈ bs, p.1 ≠ g) (j : Nat) (v : Value) : Sx B w0 ((g, cs.setIfInBounds j v, t) :: bs) (w.setCell ⟨g, j, none⟩ v) :=
  ((h.less (cs := bs) fun p hp => List.mem_cons_of_mem _ hp).grown (grown_setCells w g [v] j).1 hB hne).add ((h.blk (g, cs, t) (List.mem_cons_self ..)).set j v)
theorem wp_via {P : Program} {c : Code} {Q : Exit → Act → World → Prop} {a : Act} {w : World} (R : Act → Exit → Act → World → Prop) (h : c.wp P (R a) a w) (k : ∀ e a' w', R a e a' w' → Q e a' w') : c.wp P Q a w := Code.wp_mono k h
/-- After the first region: two new rows, the mask and the bools. -/
def R1 (M : Nat → Bool) (w0 : World) (a : Act) (e : Exit) (a' : Act) (w' : World) : Prop :=
  e = .normal ∧ ∃ g7 g8, w0.heap.size < g7 ∧ w0.heap.size < g8 ∧ g7 ≠ g8 ∧ a' = ((((a.put (some 13) (.agg (mk4 M))).put (some 14) (.agg (mk4 M))).put (some 15) (.agg (bl M))).put (some 7) (.pointer (some ⟨g7, 0, none⟩))).put (some 8) (.pointer (some ⟨g8, 0, none⟩)) ∧
    Sx w0.heap.size w0 [(w0.heap.size, mk4 M, 23), (g7, mk4 M, 24), (g8, bl M, 26)] w'
/-- After the second: two more rows of bools. -/
def R2 (M : Nat → Bool) (w0 : World) (g7 g8 : Nat) (a : Act) (e : Exit) (a' : Act) (w' : World) : Prop :=
  e = .normal ∧ ∃ g9 g10, w0.heap.size < g9 ∧ w0.heap.size < g10 ∧ g7 ≠ g9 ∧ g7 ≠ g10 ∧ g8 ≠ g9 ∧ g8 ≠ g10 ∧ g9 ≠ g10 ∧ a' = (((a.put (some 16) (.agg (bl M))).put (some 17) (.agg (bl M))).put (some 9) (.pointer (some ⟨g9, 0, none⟩))).put (some 10) (.pointer (some ⟨g10, 0, none⟩)) ∧
    Sx w0.heap.size w0 [(w0.heap.size, mk4 M, 23), (g7, mk4 M, 24), (g8, bl M, 26), (g9, bl M, 26), (g10, bl M, 26)] w'
theorem enter6 (vs : Array Value) (w : World) : (callFunc 6 vs).run Try.prog w = .ok (.enter 6 vs) w := by kernel_rfl
theorem enter9 (vs : Array Value) (w : World) : (callFunc 9 vs).run Try.prog w = .ok (.enter 9 vs) w := by kernel_rfl
theorem enter10 (vs : Array Value) (w : World) : (callFunc 10 vs).run Try.prog w = .ok (.enter 10 vs) w := by kernel_rfl
theorem enter11 (vs : Array Value) (w : World) : (callFunc 11 vs).run Try.prog w = .ok (.enter 11 vs) w := by kernel_rfl
theorem enter12 (vs : Array Value) (w : World) : (callFunc 12 vs).run Try.prog w = .ok (.enter 12 vs) w := by kernel_rfl
theorem enter13 (vs : Array Value) (w : World) : (callFunc 13 vs).run Try.prog w = .ok (.enter 13 vs) w := by kernel_rfl
theorem enter14 (vs : Array Value) (w : World) : (callFunc 14 vs).run Try.prog w = .ok (.enter 14 vs) w := by kernel_rfl
theorem enter15 (vs : Array Value) (w : World) : (callFunc 15 vs).run Try.prog w = .ok (.enter 15 vs) w := by kernel_rfl
theorem enter17 (vs : Array Value) (w : World) : (callFunc 17 vs).run Try.prog w = .ok (.enter 17 vs) w := by kernel_rfl
theorem enter18 (vs : Array Value) (w : World) : (callFunc 18 vs).run Try.prog w = .ok (.enter 18 vs) w := by kernel_rfl
theorem enter19 (vs : Array Value) (w : World) : (callFunc 19 vs).run Try.prog w = .ok (.enter 19 vs) w := by kernel_rfl
theorem ins_bl (M : Nat → Bool) (k : Nat) : (bl M).setIfInBounds k (.bool true) = bl (ins M k) := by
  rw [bl_set]
  exact bl_congr fun x _ => by unfold ins; by_cases e : x = k <;> simp [e]
theorem del_bl (M : Nat → Bool) (k : Nat) : (bl M).setIfInBounds k (.bool false) = bl (del M k) := by
  rw [bl_set]
  exact bl_congr fun x _ => by unfold del; by_cases e : x = k <;> simp [e]
attribute [local irreducible] mk4 wd bl setOf allTo rnk rank
set_option maxHeartbeats 2000000 in
set_option maxRecDepth 100000 in
theorem tells_any (M : Nat → Bool) (k : Nat) (hk : k ≤ 255) (n : Int) (hn0 : -9223372036854775808 ≤ n) (hn1 : n ≤ 9223372036854775807) (w : World) : Calls Try.prog 3 #[.agg (mk4 M), .int .u8 (k : Int), .int .i64 n] w fun e w' => e = .returned (.bool true) ∧ Below w.heap.size w w' := by
  go_enter Try.func3, Try.ntmps3
  have hS0 := (Sx.start w).new (mk4 M) 23
  go_wp2_with fail
  refine wp_via (R1 M w) ?_ ?_
  case refine_1 =>
    refine region_tree (.q 0 (.q 1 (.c3 2 (.c2 3 (.c1 4 (.c1 5 (.c1 6 .nil))) 4 (.c1 3 (.c1 5 (.c1 6 .nil)))) 3 (.c2 2 (.c1 4 (.c1 5 (.c1 6 .nil))) 4 (.c1 2 (.c1 5 (.c1 6 .nil)))) 4 (.c2 2 (.c1 3 (.c1 5 (.c1 6 .nil))) 3 (.c1 2 (.c1 5 (.c1 6 .nil))))))) folm (by kernel_rfl) (by kernel_rfl) (fun d _ _ _ _ h => by exact nomatch h.1) (Sx w.heap.size w [(w.heap.size, mk4 M, 23)]) hS0.drew ?_
    have hS := hS0.drew
    clear hS0
    refine Tree.load (some 13) none 23 (.tmp 3) w.heap.size (mk4 M) 23 _ rfl rfl rfl (fun w_ h_ => Sx.blk h_ (w.heap.size, mk4 M, 23) (by simp)) Try.underlying23 rfl (by rw [mk4_size]; exact infoW) ?_
    (simp only [Act.put, List.setIfInBounds_toArray, List.set_cons_zero, List.set_cons_succ])
    refine Tree.load (some 14) none 23 (.tmp 3) w.heap.size (mk4 M) 23 _ rfl rfl rfl (fun w_ h_ => Sx.blk h_ (w.heap.size, mk4 M, 23) (by simp)) Try.underlying23 rfl (by rw [mk4_size]; exact infoW) ?_
    (simp only [Act.put, List.setIfInBounds_toArray, List.set_cons_zero, List.set_cons_succ])
    refine Tree.mk3 ?_ ?_ ?_
    · (refine Does.call (some 15) none 6 #[.tmp 14] #[23] #[.agg (mk4 M)] rfl rfl rfl (enter6 _) ?_; refine (sof_any M _).mono ?_; rintro e wq ⟨rfl, hb⟩; have hS := Sx.below (by assumption) hb; clear hb; refine ⟨_, rfl, hS.less (by simp), ?_⟩; (simp only [Act.put, List.setIfInBounds_toArray, List.set_cons_zero, List.set_cons_succ]))
      refine Tree.mk2 ?_ ?_
      · (refine Does.newX (some 7) none 24 (mk4 fun _ => false) (by assumption) rfl rfl zeroM ?_; intro g7 wq hS hl hB7; simp only [List.forall_mem_cons] at hl; refine ⟨hS.less (by simp), ?_⟩; (simp only [Act.put, List.setIfInBounds_toArray, List.set_cons_zero, List.set_cons_succ])); refine Tree.mk1 ?_; (refine Does.newX (some 8) none 26 (bl fun _ => false) (by assumption) rfl rfl zeroS ?_; intro g8 wq hS hl' hB8; simp only [List.forall_mem_cons] at hl'; refine ⟨hS.less (by simp), ?_⟩; (simp only [Act.put, List.setIfInBounds_toArray, List.set_cons_zero, List.set_cons_succ])); (refine Tree.mk1 ?_; refine Does.storeX none 24 (.tmp 7) (.tmp 13) g7 (mk4 fun _ => false) (mk4 M) 24 (Sx.less (cs := [(g7, mk4 fun _ => false, 24), (g8, bl fun _ => false, 26), (w.heap.size, mk4 M, 23)]) (by assumption) (by simp)) (by simp only [List.forall_mem_cons]; refine ⟨by omega, by omega, by simp⟩) (by omega) rfl rfl rfl rfl (by rw [mk4_size, mk4_size]) (by rw [mk4_size]; exact infoM) (mk4_one _) ?_; intro wr hS; refine ⟨hS.less (by simp), ?_⟩; refine Tree.mk1 ?_; refine Does.storeX none 26 (.tmp 8) (.tmp 15) g8 (bl fun _ => false) (bl M) 26 (Sx.less (cs := [(g8, bl fun _ => false, 26), (g7, mk4 M, 24), (w.heap.size, mk4 M, 23)]) (by assumption) (by simp)) (by simp only [List.forall_mem_cons]; refine ⟨by omega, by omega, by simp⟩) (by omega) rfl rfl rfl rfl (by rw [bl_size, bl_size]) (by rw [bl_size]; exact infoS) (bl_one _) ?_; intro ws hS; refine ⟨hS.less (by simp), ?_⟩; refine Tree.mk0 ?_; exact ⟨rfl, g7, g8, by omega, by omega, by omega, rfl, hS.less (by simp)⟩)
      · (refine Does.newX (some 8) none 26 (bl fun _ => false) (by assumption) rfl rfl zeroS ?_; intro g8 wq hS hl' hB8; simp only [List.forall_mem_cons] at hl'; refine ⟨hS.less (by simp), ?_⟩; (simp only [Act.put, List.setIfInBounds_toArray, List.set_cons_zero, List.set_cons_succ])); refine Tree.mk1 ?_; (refine Does.newX (some 7) none 24 (mk4 fun _ => false) (by assumption) rfl rfl zeroM ?_; intro g7 wq hS hl hB7; simp only [List.forall_mem_cons] at hl; refine ⟨hS.less (by simp), ?_⟩; (simp only [Act.put, List.setIfInBounds_toArray, List.set_cons_zero, List.set_cons_succ])); (refine Tree.mk1 ?_; refine Does.storeX none 24 (.tmp 7) (.tmp 13) g7 (mk4 fun _ => false) (mk4 M) 24 (Sx.less (cs := [(g7, mk4 fun _ => false, 24), (g8, bl fun _ => false, 26), (w.heap.size, mk4 M, 23)]) (by assumption) (by simp)) (by simp only [List.forall_mem_cons]; refine ⟨by omega, by omega, by simp⟩) (by omega) rfl rfl rfl rfl (by rw [mk4_size, mk4_size]) (by rw [mk4_size]; exact infoM) (mk4_one _) ?_; intro wr hS; refine ⟨hS.less (by simp), ?_⟩; refine Tree.mk1 ?_; refine Does.storeX none 26 (.tmp 8) (.tmp 15) g8 (bl fun _ => false) (bl M) 26 (Sx.less (cs := [(g8, bl fun _ => false, 26), (g7, mk4 M, 24), (w.heap.size, mk4 M, 23)]) (by assumption) (by simp)) (by simp only [List.forall_mem_cons]; refine ⟨by omega, by omega, by simp⟩) (by omega) rfl rfl rfl rfl (by rw [bl_size, bl_size]) (by rw [bl_size]; exact infoS) (bl_one _) ?_; intro ws hS; refine ⟨hS.less (by simp), ?_⟩; refine Tree.mk0 ?_; exact ⟨rfl, g7, g8, by omega, by omega, by omega, rfl, hS.less (by simp)⟩)
    · (refine Does.newX (some 7) none 24 (mk4 fun _ => false) (by assumption) rfl rfl zeroM ?_; intro g7 wq hS hl hB7; simp only [List.forall_mem_cons] at hl; refine ⟨hS.less (by simp), ?_⟩; (simp only [Act.put, List.setIfInBounds_toArray, List.set_cons_zero, List.set_cons_succ]))
      refine Tree.mk2 ?_ ?_
      · (refine Does.call (some 15) none 6 #[.tmp 14] #[23] #[.agg (mk4 M)] rfl rfl rfl (enter6 _) ?_; refine (sof_any M _).mono ?_; rintro e wq ⟨rfl, hb⟩; have hS := Sx.below (by assumption) hb; clear hb; refine ⟨_, rfl, hS.less (by simp), ?_⟩; (simp only [Act.put, List.setIfInBounds_toArray, List.set_cons_zero, List.set_cons_succ])); refine Tree.mk1 ?_; (refine Does.newX (some 8) none 26 (bl fun _ => false) (by assumption) rfl rfl zeroS ?_; intro g8 wq hS hl' hB8; simp only [List.forall_mem_cons] at hl'; refine ⟨hS.less (by simp), ?_⟩; (simp only [Act.put, List.setIfInBounds_toArray, List.set_cons_zero, List.set_cons_succ])); (refine Tree.mk1 ?_; refine Does.storeX none 24 (.tmp 7) (.tmp 13) g7 (mk4 fun _ => false) (mk4 M) 24 (Sx.less (cs := [(g7, mk4 fun _ => false, 24), (g8, bl fun _ => false, 26), (w.heap.size, mk4 M, 23)]) (by assumption) (by simp)) (by simp only [List.forall_mem_cons]; refine ⟨by omega, by omega, by simp⟩) (by omega) rfl rfl rfl rfl (by rw [mk4_size, mk4_size]) (by rw [mk4_size]; exact infoM) (mk4_one _) ?_; intro wr hS; refine ⟨hS.less (by simp), ?_⟩; refine Tree.mk1 ?_; refine Does.storeX none 26 (.tmp 8) (.tmp 15) g8 (bl fun _ => false) (bl M) 26 (Sx.less (cs := [(g8, bl fun _ => false, 26), (g7, mk4 M, 24), (w.heap.size, mk4 M, 23)]) (by assumption) (by simp)) (by simp only [List.forall_mem_cons]; refine ⟨by omega, by omega, by simp⟩) (by omega) rfl rfl rfl rfl (by rw [bl_size, bl_size]) (by rw [bl_size]; exact infoS) (bl_one _) ?_; intro ws hS; refine ⟨hS.less (by simp), ?_⟩; refine Tree.mk0 ?_; exact ⟨rfl, g7, g8, by omega, by omega, by omega, rfl, hS.less (by simp)⟩)
      · (refine Does.newX (some 8) none 26 (bl fun _ => false) (by assumption) rfl rfl zeroS ?_; intro g8 wq hS hl' hB8; simp only [List.forall_mem_cons] at hl'; refine ⟨hS.less (by simp), ?_⟩; (simp only [Act.put, List.setIfInBounds_toArray, List.set_cons_zero, List.set_cons_succ])); refine Tree.mk1 ?_; (refine Does.call (some 15) none 6 #[.tmp 14] #[23] #[.agg (mk4 M)] rfl rfl rfl (enter6 _) ?_; refine (sof_any M _).mono ?_; rintro e wq ⟨rfl, hb⟩; have hS := Sx.below (by assumption) hb; clear hb; refine ⟨_, rfl, hS.less (by simp), ?_⟩; (simp only [Act.put, List.setIfInBounds_toArray, List.set_cons_zero, List.set_cons_succ])); (refine Tree.mk1 ?_; refine Does.storeX none 24 (.tmp 7) (.tmp 13) g7 (mk4 fun _ => false) (mk4 M) 24 (Sx.less (cs := [(g7, mk4 fun _ => false, 24), (g8, bl fun _ => false, 26), (w.heap.size, mk4 M, 23)]) (by assumption) (by simp)) (by simp only [List.forall_mem_cons]; refine ⟨by omega, by omega, by simp⟩) (by omega) rfl rfl rfl rfl (by rw [mk4_size, mk4_size]) (by rw [mk4_size]; exact infoM) (mk4_one _) ?_; intro wr hS; refine ⟨hS.less (by simp), ?_⟩; refine Tree.mk1 ?_; refine Does.storeX none 26 (.tmp 8) (.tmp 15) g8 (bl fun _ => false) (bl M) 26 (Sx.less (cs := [(g8, bl fun _ => false, 26), (g7, mk4 M, 24), (w.heap.size, mk4 M, 23)]) (by assumption) (by simp)) (by simp only [List.forall_mem_cons]; refine ⟨by omega, by omega, by simp⟩) (by omega) rfl rfl rfl rfl (by rw [bl_size, bl_size]) (by rw [bl_size]; exact infoS) (bl_one _) ?_; intro ws hS; refine ⟨hS.less (by simp), ?_⟩; refine Tree.mk0 ?_; exact ⟨rfl, g7, g8, by omega, by omega, by omega, rfl, hS.less (by simp)⟩)
    · (refine Does.newX (some 8) none 26 (bl fun _ => false) (by assumption) rfl rfl zeroS ?_; intro g8 wq hS hl' hB8; simp only [List.forall_mem_cons] at hl'; refine ⟨hS.less (by simp), ?_⟩; (simp only [Act.put, List.setIfInBounds_toArray, List.set_cons_zero, List.set_cons_succ]))
      refine Tree.mk2 ?_ ?_
      · (refine Does.call (some 15) none 6 #[.tmp 14] #[23] #[.agg (mk4 M)] rfl rfl rfl (enter6 _) ?_; refine (sof_any M _).mono ?_; rintro e wq ⟨rfl, hb⟩; have hS := Sx.below (by assumption) hb; clear hb; refine ⟨_, rfl, hS.less (by simp), ?_⟩; (simp only [Act.put, List.setIfInBounds_toArray, List.set_cons_zero, List.set_cons_succ])); refine Tree.mk1 ?_; (refine Does.newX (some 7) none 24 (mk4 fun _ => false) (by assumption) rfl rfl zeroM ?_; intro g7 wq hS hl hB7; simp only [List.forall_mem_cons] at hl; refine ⟨hS.less (by simp), ?_⟩; (simp only [Act.put, List.setIfInBounds_toArray, List.set_cons_zero, List.set_cons_succ])); (refine Tree.mk1 ?_; refine Does.storeX none 24 (.tmp 7) (.tmp 13) g7 (mk4 fun _ => false) (mk4 M) 24 (Sx.less (cs := [(g7, mk4 fun _ => false, 24), (g8, bl fun _ => false, 26), (w.heap.size, mk4 M, 23)]) (by assumption) (by simp)) (by simp only [List.forall_mem_cons]; refine ⟨by omega, by omega, by simp⟩) (by omega) rfl rfl rfl rfl (by rw [mk4_size, mk4_size]) (by rw [mk4_size]; exact infoM) (mk4_one _) ?_; intro wr hS; refine ⟨hS.less (by simp), ?_⟩; refine Tree.mk1 ?_; refine Does.storeX none 26 (.tmp 8) (.tmp 15) g8 (bl fun _ => false) (bl M) 26 (Sx.less (cs := [(g8, bl fun _ => false, 26), (g7, mk4 M, 24), (w.heap.size, mk4 M, 23)]) (by assumption) (by simp)) (by simp only [List.forall_mem_cons]; refine ⟨by omega, by omega, by simp⟩) (by omega) rfl rfl rfl rfl (by rw [bl_size, bl_size]) (by rw [bl_size]; exact infoS) (bl_one _) ?_; intro ws hS; refine ⟨hS.less (by simp), ?_⟩; refine Tree.mk0 ?_; exact ⟨rfl, g7, g8, by omega, by omega, by omega, rfl, hS.less (by simp)⟩)
      · (refine Does.newX (some 7) none 24 (mk4 fun _ => false) (by assumption) rfl rfl zeroM ?_; intro g7 wq hS hl hB7; simp only [List.forall_mem_cons] at hl; refine ⟨hS.less (by simp), ?_⟩; (simp only [Act.put, List.setIfInBounds_toArray, List.set_cons_zero, List.set_cons_succ])); refine Tree.mk1 ?_; (refine Does.call (some 15) none 6 #[.tmp 14] #[23] #[.agg (mk4 M)] rfl rfl rfl (enter6 _) ?_; refine (sof_any M _).mono ?_; rintro e wq ⟨rfl, hb⟩; have hS := Sx.below (by assumption) hb; clear hb; refine ⟨_, rfl, hS.less (by simp), ?_⟩; (simp only [Act.put, List.setIfInBounds_toArray, List.set_cons_zero, List.set_cons_succ])); (refine Tree.mk1 ?_; refine Does.storeX none 24 (.tmp 7) (.tmp 13) g7 (mk4 fun _ => false) (mk4 M) 24 (Sx.less (cs := [(g7, mk4 fun _ => false, 24), (g8, bl fun _ => false, 26), (w.heap.size, mk4 M, 23)]) (by assumption) (by simp)) (by simp only [List.forall_mem_cons]; refine ⟨by omega, by omega, by simp⟩) (by omega) rfl rfl rfl rfl (by rw [mk4_size, mk4_size]) (by rw [mk4_size]; exact infoM) (mk4_one _) ?_; intro wr hS; refine ⟨hS.less (by simp), ?_⟩; refine Tree.mk1 ?_; refine Does.storeX none 26 (.tmp 8) (.tmp 15) g8 (bl fun _ => false) (bl M) 26 (Sx.less (cs := [(g8, bl fun _ => false, 26), (g7, mk4 M, 24), (w.heap.size, mk4 M, 23)]) (by assumption) (by simp)) (by simp only [List.forall_mem_cons]; refine ⟨by omega, by omega, by simp⟩) (by omega) rfl rfl rfl rfl (by rw [bl_size, bl_size]) (by rw [bl_size]; exact infoS) (bl_one _) ?_; intro ws hS; refine ⟨hS.less (by simp), ?_⟩; refine Tree.mk0 ?_; exact ⟨rfl, g7, g8, by omega, by omega, by omega, rfl, hS.less (by simp)⟩)
  rintro e1 a1 w1 ⟨rfl, g7, g8, hg7, hg8, h78, rfl, hS1⟩
  clear hS0
  (simp only [Act.put, List.setIfInBounds_toArray, List.set_cons_zero, List.set_cons_succ])
  go_wp2_with fail
  refine wp_via (R2 M w g7 g8) ?_ ?_
  case refine_1 =>
    refine region_tree (.q 0 (.q 1 (.c2 2 (.c1 3 (.c1 4 (.c1 5 .nil))) 3 (.c1 2 (.c1 4 (.c1 5 .nil)))))) folm (by kernel_rfl) (by kernel_rfl) (fun d _ _ _ _ h => by exact nomatch h.1) (Sx w.heap.size w [(w.heap.size, mk4 M, 23), (g7, mk4 M, 24), (g8, bl M, 26)]) hS1.drew ?_
    have hS := hS1.drew
    clear hS1
    refine Tree.load (some 16) none 26 (.tmp 8) g8 (bl M) 26 _ rfl rfl rfl (fun w_ h_ => Sx.blk h_ (g8, bl M, 26) (by simp)) Try.underlying26 rfl (by rw [bl_size]; exact infoS) ?_
    (simp only [Act.put, List.setIfInBounds_toArray, List.set_cons_zero, List.set_cons_succ])
    refine Tree.load (some 17) none 26 (.tmp 8) g8 (bl M) 26 _ rfl rfl rfl (fun w_ h_ => Sx.blk h_ (g8, bl M, 26) (by simp)) Try.underlying26 rfl (by rw [bl_size]; exact infoS) ?_
    (simp only [Act.put, List.setIfInBounds_toArray, List.set_cons_zero, List.set_cons_succ])
    refine Tree.mk2 ?_ ?_
    · (refine Does.newX (some 9) none 26 (bl fun _ => false) (by assumption) rfl rfl zeroS ?_; intro g9 wq hS hl hB9; simp only [List.forall_mem_cons] at hl; refine ⟨hS.less (by simp), ?_⟩; (simp only [Act.put, List.setIfInBounds_toArray, List.set_cons_zero, List.set_cons_succ])); refine Tree.mk1 ?_; (refine Does.newX (some 10) none 26 (bl fun _ => false) (by assumption) rfl rfl zeroS ?_; intro g10 wq hS hl' hB10; simp only [List.forall_mem_cons] at hl'; refine ⟨hS.less (by simp), ?_⟩; (simp only [Act.put, List.setIfInBounds_toArray, List.set_cons_zero, List.set_cons_succ])); (refine Tree.mk1 ?_; refine Does.storeX none 26 (.tmp 9) (.tmp 16) g9 (bl fun _ => false) (bl M) 26 (Sx.less (cs := [(g9, bl fun _ => false, 26), (g10, bl fun _ => false, 26), (w.heap.size, mk4 M, 23), (g7, mk4 M, 24), (g8, bl M, 26)]) (by assumption) (by simp)) (by simp only [List.forall_mem_cons]; refine ⟨by omega, by omega, by omega, by omega, by simp⟩) (by omega) rfl rfl rfl rfl (by rw [bl_size, bl_size]) (by rw [bl_size]; exact infoS) (bl_one _) ?_; intro wr hS; refine ⟨hS.less (by simp), ?_⟩; refine Tree.mk1 ?_; refine Does.storeX none 26 (.tmp 10) (.tmp 17) g10 (bl fun _ => false) (bl M) 26 (Sx.less (cs := [(g10, bl fun _ => false, 26), (g9, bl M, 26), (w.heap.size, mk4 M, 23), (g7, mk4 M, 24), (g8, bl M, 26)]) (by assumption) (by simp)) (by simp only [List.forall_mem_cons]; refine ⟨by omega, by omega, by omega, by omega, by simp⟩) (by omega) rfl rfl rfl rfl (by rw [bl_size, bl_size]) (by rw [bl_size]; exact infoS) (bl_one _) ?_; intro ws hS; refine ⟨hS.less (by simp), ?_⟩; refine Tree.mk0 ?_; exact ⟨rfl, g9, g10, by omega, by omega, by omega, by omega, by omega, by omega, by omega, rfl, hS.less (by simp)⟩)
    · (refine Does.newX (some 10) none 26 (bl fun _ => false) (by assumption) rfl rfl zeroS ?_; intro g10 wq hS hl' hB10; simp only [List.forall_mem_cons] at hl'; refine ⟨hS.less (by simp), ?_⟩; (simp only [Act.put, List.setIfInBounds_toArray, List.set_cons_zero, List.set_cons_succ])); refine Tree.mk1 ?_; (refine Does.newX (some 9) none 26 (bl fun _ => false) (by assumption) rfl rfl zeroS ?_; intro g9 wq hS hl hB9; simp only [List.forall_mem_cons] at hl; refine ⟨hS.less (by simp), ?_⟩; (simp only [Act.put, List.setIfInBounds_toArray, List.set_cons_zero, List.set_cons_succ])); (refine Tree.mk1 ?_; refine Does.storeX none 26 (.tmp 9) (.tmp 16) g9 (bl fun _ => false) (bl M) 26 (Sx.less (cs := [(g9, bl fun _ => false, 26), (g10, bl fun _ => false, 26), (w.heap.size, mk4 M, 23), (g7, mk4 M, 24), (g8, bl M, 26)]) (by assumption) (by simp)) (by simp only [List.forall_mem_cons]; refine ⟨by omega, by omega, by omega, by omega, by simp⟩) (by omega) rfl rfl rfl rfl (by rw [bl_size, bl_size]) (by rw [bl_size]; exact infoS) (bl_one _) ?_; intro wr hS; refine ⟨hS.less (by simp), ?_⟩; refine Tree.mk1 ?_; refine Does.storeX none 26 (.tmp 10) (.tmp 17) g10 (bl fun _ => false) (bl M) 26 (Sx.less (cs := [(g10, bl fun _ => false, 26), (g9, bl M, 26), (w.heap.size, mk4 M, 23), (g7, mk4 M, 24), (g8, bl M, 26)]) (by assumption) (by simp)) (by simp only [List.forall_mem_cons]; refine ⟨by omega, by omega, by omega, by omega, by simp⟩) (by omega) rfl rfl rfl rfl (by rw [bl_size, bl_size]) (by rw [bl_size]; exact infoS) (bl_one _) ?_; intro ws hS; refine ⟨hS.less (by simp), ?_⟩; refine Tree.mk0 ?_; exact ⟨rfl, g9, g10, by omega, by omega, by omega, by omega, by omega, by omega, by omega, rfl, hS.less (by simp)⟩)
  rintro e2 a2 w2 ⟨rfl, g9, g10, hg9, hg10, h79, h7x, h89, h8x, h9x, rfl, hS2⟩
  clear hS1
  (simp only [Act.put, List.setIfInBounds_toArray, List.set_cons_zero, List.set_cons_succ])
  have hb9 := hS2.blk (g9, bl M, 26) (by simp)
  have hb10 := hS2.blk (g10, bl M, 26) (by simp)
  have hc9 : w2.cell? ⟨g9, k, none⟩ = some (.bool (M k)) := (hb9.cell k).trans (bl_get M k (by omega))
  have hf9 : w2.frozen? ⟨g9, k, none⟩ = false := hb9.frozen k
  have hc10 : w2.cell? ⟨g10, k, none⟩ = some (.bool (M k)) := (hb10.cell k).trans (bl_get M k (by omega))
  have hf10 : w2.frozen? ⟨g10, k, none⟩ = false := hb10.frozen k
  clear hb9 hb10
  have hS3 := (hS2.less (cs := [(g9, bl M, 26), (w.heap.size, mk4 M, 23), (g7, mk4 M, 24), (g8, bl M, 26), (g10, bl M, 26)]) (by simp)).set (by omega) (by simp only [List.forall_mem_cons]; refine ⟨by omega, by omega, by omega, by omega, by simp⟩) k (.bool true)
  rw [ins_bl] at hS3
  have hS4 := (hS3.less (cs := [(g10, bl M, 26), (g9, bl (ins M k), 26), (w.heap.size, mk4 M, 23), (g7, mk4 M, 24), (g8, bl M, 26)]) (by simp)).set (by omega) (by simp only [List.forall_mem_cons]; refine ⟨by omega, by omega, by omega, by omega, by simp⟩) k (.bool false)
  rw [del_bl] at hS4
  clear hS3 hS2
  go_wp2_with (first | refine wpList_load_G rfl 24 _ rfl g7 (mk4 M) 24 _ rfl (Sx.blk hS4 (g7, mk4 M, 24) (by simp)) Try.underlying24 rfl (by rw [mk4_size]; exact infoM) ?_ | fail)
  refine (all_any M _).mono ?_
  rintro e wa ⟨va, rfl, hba, hOa⟩
  obtain ⟨B2, hB2⟩ : ∃ B2, B2 = ((w2.setCell ⟨g9, k, none⟩ (.bool true)).setCell ⟨g10, k, none⟩ (.bool false)).heap.size := ⟨_, rfl⟩
  rw [← hB2] at hOa
  have hB3 : w.heap.size < B2 ∧ g7 < B2 ∧ g8 < B2 ∧ g9 < B2 ∧ g10 < B2 := by
    rw [hB2]
    exact ⟨(hS4.blk (w.heap.size, mk4 M, 23) (by simp)).lt, (hS4.blk (g7, mk4 M, 24) (by simp)).lt, (hS4.blk (g8, bl M, 26) (by simp)).lt, (hS4.blk (g9, bl (ins M k), 26) (by simp)).lt, (hS4.blk (g10, bl (del M k), 26) (by simp)).lt⟩
  have hSr : Sr w.heap.size w [(w.heap.size, mk4 M, 23), (g7, mk4 M, 24), (g8, bl M, 26), (g9, bl (ins M k), 26), (g10, bl (del M k), 26)] [(B2, va, allTo M 256)] wa :=
    ⟨(hS4.below hba).less (by simp), fun p hp => by rw [List.mem_singleton] at hp; subst hp; exact hOa⟩
  clear hS4 hba hOa hB2 hc9 hf9 hc10 hf10
  obtain ⟨ad, c, rfl, hlc, hl6, _⟩ := hSr.row.reads
  go_wp2_with fail
  have hq0 : ∀ W : World, (Op.equalIn 10000 24 (.agg (mk4 (M))) (.agg (mk4 (M)))).run Try.prog W = .ok true W := fun W => (eqM _ _ W).trans (by rw [same4_self])
  have hq1 : ∀ W : World, (Op.equalIn 10000 24 (.agg (mk4 (ins M k))) (.agg (mk4 (ins M k)))).run Try.prog W = .ok true W := fun W => (eqM _ _ W).trans (by rw [same4_self])
  have hq2 : ∀ W : World, (Op.equalIn 10000 24 (.agg (mk4 (del M k))) (.agg (mk4 (del M k)))).run Try.prog W = .ok true W := fun W => (eqM _ _ W).trans (by rw [same4_self])
  have hlen : rnk M 256 = (allTo M 256).length := (allTo_length M 256).symm
  have hS := hSr.drew
  refine region_fin [(0, true), (1, true), (3, true), (4, true), (5, true), (2, false), (6, true), (7, true), (8, true), (9, true), (11, true), (10, false), (12, false), (13, true), (14, true), (15, true), (16, true), (17, true), (19, true), (18, false), (20, false), (21, true), (22, true), (23, true), (24, true), (25, true), (27, true), (28, true), (26, false), (29, false), (30, true), (31, true), (32, true), (33, true), (34, true), (36, true), (37, true), (35, false), (38, false), (39, true), (40, true), (41, true), (42, true), (43, true), (45, true), (46, true), (44, false), (47, false), (48, true), (49, true), (50, true), (51, true), (52, true), (53, false), (54, false), (55, true), (56, true), (57, true), (59, true), (60, true), (58, false), (61, true), (62, true), (63, true)] folm (by kernel_rfl) (by kernel_rfl) (by kernel_rfl) (fun d _ _ _ _ h => by cases d <;> exact h) (Sr w.heap.size w [(w.heap.size, mk4 M, 23), (g7, mk4 M, 24), (g8, bl M, 26), (g9, bl (ins M k), 26), (g10, bl (del M k), 26)] [(B2, .slice ad (allTo M 256).length c, allTo M 256)]) (hSr.drew) ?_
  refine Fin.load (some 24) none 24 (Operand.tmp 7) (g7) (mk4 M) 24 _ rfl rfl rfl (fun w_ h_ => Sr.blk h_ (g7, mk4 M, 24) (by simp)) Try.underlying24 rfl (by rw [mk4_size]; exact infoM) ?_
  simp only [Act.put, List.setIfInBounds_toArray, List.set_cons_zero, List.set_cons_succ]
  refine Fin.mv (some 25) none (Operand.tmp 1) (.int .u8 (k : Int)) rfl rfl rfl ?_
  simp only [Act.put, List.setIfInBounds_toArray, List.set_cons_zero, List.set_cons_succ]
  refine Fin.mv (some 27) none (Operand.tmp 1) (.int .u8 (k : Int)) rfl rfl rfl ?_
  simp only [Act.put, List.setIfInBounds_toArray, List.set_cons_zero, List.set_cons_succ]
  refine Fin.ix (some 28) none 26 (Operand.tmp 8) (Operand.tmp 27) (.pointer (some ⟨g8, 0, none⟩)) (.int .u8 (k : Int)) (.pointer (some ⟨g8, k, none⟩)) rfl rfl rfl rfl (fun w_ => by go_simp; intro _; omega) ?_
  simp only [Act.put, List.setIfInBounds_toArray, List.set_cons_zero, List.set_cons_succ]
  refine Fin.load1 (some 29) none 4 (Operand.tmp 28) ⟨g8, k, none⟩ (.bool (M k)) rfl rfl rfl (fun w_ h_ => by have hc := ((Sr.blk h_ (g8, bl M, 26) (by simp)).cell k).trans (bl_get M k (by omega)); go_simp) ?_
  simp only [Act.put, List.setIfInBounds_toArray, List.set_cons_zero, List.set_cons_succ]
  refine Fin.call (some 26) none 8 #[Operand.tmp 24, Operand.tmp 25] #[24, 5] #[.agg (mk4 M), .int .u8 (k : Int)] rfl rfl rfl (enter8 _) ?_
  refine (has_any (M) k (by omega) (by omega) _).mono ?_
  rintro e wn2 ⟨rfl, hb⟩
  rw [Int.toNat_natCast]
  have hS := Sr.below hS hb
  clear hb
  refine ⟨_, rfl, hS, ?_⟩
  simp only [Act.put, List.setIfInBounds_toArray, List.set_cons_zero, List.set_cons_succ]
  refine Fin.bin (some 30) none .eql 4 4 (Operand.tmp 26) (Operand.tmp 29) (.bool (M k)) (.bool (M k)) (.bool true) rfl rfl rfl rfl (fun w_ => ⟨by first | rfl | go_simp, by go_simp⟩) ?_
  simp only [Act.put, List.setIfInBounds_toArray, List.set_cons_zero, List.set_cons_succ]
  refine Fin.mv (some 31) none (Operand.tmp 30) (.bool true) rfl rfl rfl ?_
  simp only [Act.put, List.setIfInBounds_toArray, List.set_cons_zero, List.set_cons_succ]
  refine Fin.load (some 32) (some (7, true)) 24 (Operand.tmp 7) (g7) (mk4 M) 24 _ rfl rfl rfl (fun w_ h_ => Sr.blk h_ (g7, mk4 M, 24) (by simp)) Try.underlying24 rfl (by rw [mk4_size]; exact infoM) ?_
  simp only [Act.put, List.setIfInBounds_toArray, List.set_cons_zero, List.set_cons_succ]
  refine Fin.mv (some 33) (some (7, true)) (Operand.tmp 1) (.int .u8 (k : Int)) rfl rfl rfl ?_
  simp only [Act.put, List.setIfInBounds_toArray, List.set_cons_zero, List.set_cons_succ]
  refine Fin.load (some 35) (some (7, true)) 26 (Operand.tmp 9) (g9) (bl (ins M k)) 26 _ rfl rfl rfl (fun w_ h_ => Sr.blk h_ (g9, bl (ins M k), 26) (by simp)) Try.underlying26 rfl (by rw [bl_size]; exact infoS) ?_
  simp only [Act.put, List.setIfInBounds_toArray, List.set_cons_zero, List.set_cons_succ]
  refine Fin.call (some 34) (some (7, true)) 9 #[Operand.tmp 32, Operand.tmp 33] #[24, 5] #[.agg (mk4 M), .int .u8 (k : Int)] rfl rfl rfl (enter9 _) ?_
  refine (with_any (M) k (by omega) (by omega) _).mono ?_
  rintro e wn10 ⟨rfl, hb⟩
  rw [Int.toNat_natCast]
  have hS := Sr.below hS hb
  clear hb
  refine ⟨_, rfl, hS, ?_⟩
  simp only [Act.put, List.setIfInBounds_toArray, List.set_cons_zero, List.set_cons_succ]
  refine Fin.call (some 36) (some (7, true)) 10 #[Operand.tmp 35] #[26] #[.agg (bl (ins M k))] rfl rfl rfl (enter10 _) ?_
  refine (words_any (ins M k) _).mono ?_
  rintro e wn12 ⟨rfl, hb⟩
  have hS := Sr.below hS hb
  clear hb
  refine ⟨_, rfl, hS, ?_⟩
  simp only [Act.put, List.setIfInBounds_toArray, List.set_cons_zero, List.set_cons_succ]
  refine Fin.bin (some 37) (some (7, true)) .eql 24 24 (Operand.tmp 34) (Operand.tmp 36) (.agg (mk4 (ins M k))) (.agg (mk4 (ins M k))) (.bool true) rfl rfl rfl rfl (fun w_ => ⟨by first | rfl | go_simp, by go_simp⟩) ?_
  simp only [Act.put, List.setIfInBounds_toArray, List.set_cons_zero, List.set_cons_succ]
  refine Fin.pick (some 38) none (Operand.tmp 31) (Operand.tmp 37) (Operand.const (Value.bool false)) true (.bool true) rfl rfl rfl rfl ?_
  simp only [Act.put, List.setIfInBounds_toArray, List.set_cons_zero, List.set_cons_succ]
  refine Fin.mv (some 39) none (Operand.tmp 38) (.bool true) rfl rfl rfl ?_
  simp only [Act.put, List.setIfInBounds_toArray, List.set_cons_zero, List.set_cons_succ]
  refine Fin.load (some 40) (some (15, true)) 24 (Operand.tmp 7) (g7) (mk4 M) 24 _ rfl rfl rfl (fun w_ h_ => Sr.blk h_ (g7, mk4 M, 24) (by simp)) Try.underlying24 rfl (by rw [mk4_size]; exact infoM) ?_
  simp only [Act.put, List.setIfInBounds_toArray, List.set_cons_zero, List.set_cons_succ]
  refine Fin.mv (some 41) (some (15, true)) (Operand.tmp 1) (.int .u8 (k : Int)) rfl rfl rfl ?_
  simp only [Act.put, List.setIfInBounds_toArray, List.set_cons_zero, List.set_cons_succ]
  refine Fin.load (some 43) (some (15, true)) 26 (Operand.tmp 10) (g10) (bl (del M k)) 26 _ rfl rfl rfl (fun w_ h_ => Sr.blk h_ (g10, bl (del M k), 26) (by simp)) Try.underlying26 rfl (by rw [bl_size]; exact infoS) ?_
  simp only [Act.put, List.setIfInBounds_toArray, List.set_cons_zero, List.set_cons_succ]
  refine Fin.call (some 42) (some (15, true)) 11 #[Operand.tmp 40, Operand.tmp 41] #[24, 5] #[.agg (mk4 M), .int .u8 (k : Int)] rfl rfl rfl (enter11 _) ?_
  refine (without_any (M) k (by omega) (by omega) _).mono ?_
  rintro e wn18 ⟨rfl, hb⟩
  rw [Int.toNat_natCast]
  have hS := Sr.below hS hb
  clear hb
  refine ⟨_, rfl, hS, ?_⟩
  simp only [Act.put, List.setIfInBounds_toArray, List.set_cons_zero, List.set_cons_succ]
  refine Fin.call (some 44) (some (15, true)) 10 #[Operand.tmp 43] #[26] #[.agg (bl (del M k))] rfl rfl rfl (enter10 _) ?_
  refine (words_any (del M k) _).mono ?_
  rintro e wn20 ⟨rfl, hb⟩
  have hS := Sr.below hS hb
  clear hb
  refine ⟨_, rfl, hS, ?_⟩
  simp only [Act.put, List.setIfInBounds_toArray, List.set_cons_zero, List.set_cons_succ]
  refine Fin.bin (some 45) (some (15, true)) .eql 24 24 (Operand.tmp 42) (Operand.tmp 44) (.agg (mk4 (del M k))) (.agg (mk4 (del M k))) (.bool true) rfl rfl rfl rfl (fun w_ => ⟨by first | rfl | go_simp, by go_simp⟩) ?_
  simp only [Act.put, List.setIfInBounds_toArray, List.set_cons_zero, List.set_cons_succ]
  refine Fin.pick (some 46) none (Operand.tmp 39) (Operand.tmp 45) (Operand.const (Value.bool false)) true (.bool true) rfl rfl rfl rfl ?_
  simp only [Act.put, List.setIfInBounds_toArray, List.set_cons_zero, List.set_cons_succ]
  refine Fin.mv (some 47) none (Operand.tmp 46) (.bool true) rfl rfl rfl ?_
  simp only [Act.put, List.setIfInBounds_toArray, List.set_cons_zero, List.set_cons_succ]
  refine Fin.load (some 48) (some (23, true)) 24 (Operand.tmp 7) (g7) (mk4 M) 24 _ rfl rfl rfl (fun w_ h_ => Sr.blk h_ (g7, mk4 M, 24) (by simp)) Try.underlying24 rfl (by rw [mk4_size]; exact infoM) ?_
  simp only [Act.put, List.setIfInBounds_toArray, List.set_cons_zero, List.set_cons_succ]
  refine Fin.mv (some 49) (some (23, true)) (Operand.tmp 2) (.int .i64 n) rfl rfl rfl ?_
  simp only [Act.put, List.setIfInBounds_toArray, List.set_cons_zero, List.set_cons_succ]
  refine Fin.load (some 51) (some (23, true)) 26 (Operand.tmp 8) (g8) (bl M) 26 _ rfl rfl rfl (fun w_ h_ => Sr.blk h_ (g8, bl M, 26) (by simp)) Try.underlying26 rfl (by rw [bl_size]; exact infoS) ?_
  simp only [Act.put, List.setIfInBounds_toArray, List.set_cons_zero, List.set_cons_succ]
  refine Fin.mv (some 52) (some (23, true)) (Operand.tmp 2) (.int .i64 n) rfl rfl rfl ?_
  simp only [Act.put, List.setIfInBounds_toArray, List.set_cons_zero, List.set_cons_succ]
  refine Fin.call (some 50) (some (23, true)) 12 #[Operand.tmp 48, Operand.tmp 49] #[24, 3] #[.agg (mk4 M), .int .i64 n] rfl rfl rfl (enter12 _) ?_
  refine (next_any (M) n hn0 hn1 _).mono ?_
  rintro e wn26 ⟨rfl, hb⟩
  have hS := Sr.below hS hb
  clear hb
  refine ⟨_, rfl, hS, ?_⟩
  simp only [Act.put, List.setIfInBounds_toArray, List.set_cons_zero, List.set_cons_succ]
  refine Fin.call (some 53) (some (23, true)) 13 #[Operand.tmp 51, Operand.tmp 52] #[26, 3] #[.agg (bl M), .int .i64 n] rfl rfl rfl (enter13 _) ?_
  refine (snext_any (M) n hn0 hn1 _).mono ?_
  rintro e wn29 ⟨rfl, hb⟩
  have hS := Sr.below hS hb
  clear hb
  refine ⟨_, rfl, hS, ?_⟩
  simp only [Act.put, List.setIfInBounds_toArray, List.set_cons_zero, List.set_cons_succ]
  refine Fin.bin (some 54) (some (23, true)) .eql 3 3 (Operand.tmp 50) (Operand.tmp 53) (.int .i64 (next (M) n)) (.int .i64 (next (M) n)) (.bool true) rfl rfl rfl rfl (fun w_ => ⟨by first | rfl | go_simp, by go_simp⟩) ?_
  simp only [Act.put, List.setIfInBounds_toArray, List.set_cons_zero, List.set_cons_succ]
  refine Fin.pick (some 55) none (Operand.tmp 47) (Operand.tmp 54) (Operand.const (Value.bool false)) true (.bool true) rfl rfl rfl rfl ?_
  simp only [Act.put, List.setIfInBounds_toArray, List.set_cons_zero, List.set_cons_succ]
  refine Fin.mv (some 56) none (Operand.tmp 55) (.bool true) rfl rfl rfl ?_
  simp only [Act.put, List.setIfInBounds_toArray, List.set_cons_zero, List.set_cons_succ]
  refine Fin.load (some 57) (some (32, true)) 24 (Operand.tmp 7) (g7) (mk4 M) 24 _ rfl rfl rfl (fun w_ h_ => Sr.blk h_ (g7, mk4 M, 24) (by simp)) Try.underlying24 rfl (by rw [mk4_size]; exact infoM) ?_
  simp only [Act.put, List.setIfInBounds_toArray, List.set_cons_zero, List.set_cons_succ]
  refine Fin.mv (some 58) (some (32, true)) (Operand.tmp 2) (.int .i64 n) rfl rfl rfl ?_
  simp only [Act.put, List.setIfInBounds_toArray, List.set_cons_zero, List.set_cons_succ]
  refine Fin.load (some 60) (some (32, true)) 26 (Operand.tmp 8) (g8) (bl M) 26 _ rfl rfl rfl (fun w_ h_ => Sr.blk h_ (g8, bl M, 26) (by simp)) Try.underlying26 rfl (by rw [bl_size]; exact infoS) ?_
  simp only [Act.put, List.setIfInBounds_toArray, List.set_cons_zero, List.set_cons_succ]
  refine Fin.mv (some 61) (some (32, true)) (Operand.tmp 2) (.int .i64 n) rfl rfl rfl ?_
  simp only [Act.put, List.setIfInBounds_toArray, List.set_cons_zero, List.set_cons_succ]
  refine Fin.call (some 59) (some (32, true)) 14 #[Operand.tmp 57, Operand.tmp 58] #[24, 3] #[.agg (mk4 M), .int .i64 n] rfl rfl rfl (enter14 _) ?_
  refine (prev_any (M) n hn0 hn1 _).mono ?_
  rintro e wn35 ⟨rfl, hb⟩
  have hS := Sr.below hS hb
  clear hb
  refine ⟨_, rfl, hS, ?_⟩
  simp only [Act.put, List.setIfInBounds_toArray, List.set_cons_zero, List.set_cons_succ]
  refine Fin.call (some 62) (some (32, true)) 15 #[Operand.tmp 60, Operand.tmp 61] #[26, 3] #[.agg (bl M), .int .i64 n] rfl rfl rfl (enter15 _) ?_
  refine (sprev_any (M) n hn0 hn1 _).mono ?_
  rintro e wn38 ⟨rfl, hb⟩
  have hS := Sr.below hS hb
  clear hb
  refine ⟨_, rfl, hS, ?_⟩
  simp only [Act.put, List.setIfInBounds_toArray, List.set_cons_zero, List.set_cons_succ]
  refine Fin.bin (some 63) (some (32, true)) .eql 3 3 (Operand.tmp 59) (Operand.tmp 62) (.int .i64 (prev (M) n)) (.int .i64 (prev (M) n)) (.bool true) rfl rfl rfl rfl (fun w_ => ⟨by first | rfl | go_simp, by go_simp⟩) ?_
  simp only [Act.put, List.setIfInBounds_toArray, List.set_cons_zero, List.set_cons_succ]
  refine Fin.pick (some 64) none (Operand.tmp 56) (Operand.tmp 63) (Operand.const (Value.bool false)) true (.bool true) rfl rfl rfl rfl ?_
  simp only [Act.put, List.setIfInBounds_toArray, List.set_cons_zero, List.set_cons_succ]
  refine Fin.mv (some 65) none (Operand.tmp 64) (.bool true) rfl rfl rfl ?_
  simp only [Act.put, List.setIfInBounds_toArray, List.set_cons_zero, List.set_cons_succ]
  refine Fin.load (some 66) (some (41, true)) 24 (Operand.tmp 7) (g7) (mk4 M) 24 _ rfl rfl rfl (fun w_ h_ => Sr.blk h_ (g7, mk4 M, 24) (by simp)) Try.underlying24 rfl (by rw [mk4_size]; exact infoM) ?_
  simp only [Act.put, List.setIfInBounds_toArray, List.set_cons_zero, List.set_cons_succ]
  refine Fin.mv (some 67) (some (41, true)) (Operand.tmp 2) (.int .i64 n) rfl rfl rfl ?_
  simp only [Act.put, List.setIfInBounds_toArray, List.set_cons_zero, List.set_cons_succ]
  refine Fin.load (some 69) (some (41, true)) 26 (Operand.tmp 8) (g8) (bl M) 26 _ rfl rfl rfl (fun w_ h_ => Sr.blk h_ (g8, bl M, 26) (by simp)) Try.underlying26 rfl (by rw [bl_size]; exact infoS) ?_
  simp only [Act.put, List.setIfInBounds_toArray, List.set_cons_zero, List.set_cons_succ]
  refine Fin.mv (some 70) (some (41, true)) (Operand.tmp 2) (.int .i64 n) rfl rfl rfl ?_
  simp only [Act.put, List.setIfInBounds_toArray, List.set_cons_zero, List.set_cons_succ]
  refine Fin.call (some 68) (some (41, true)) 16 #[Operand.tmp 66, Operand.tmp 67] #[24, 3] #[.agg (mk4 M), .int .i64 n] rfl rfl rfl (enter16 _) ?_
  refine (rank_any (M) n hn0 hn1 _).mono ?_
  rintro e wn44 ⟨rfl, hb⟩
  have hS := Sr.below hS hb
  clear hb
  refine ⟨_, rfl, hS, ?_⟩
  simp only [Act.put, List.setIfInBounds_toArray, List.set_cons_zero, List.set_cons_succ]
  refine Fin.call (some 71) (some (41, true)) 17 #[Operand.tmp 69, Operand.tmp 70] #[26, 3] #[.agg (bl M), .int .i64 n] rfl rfl rfl (enter17 _) ?_
  refine (srank_any (M) n hn0 hn1 _).mono ?_
  rintro e wn47 ⟨rfl, hb⟩
  have hS := Sr.below hS hb
  clear hb
  refine ⟨_, rfl, hS, ?_⟩
  simp only [Act.put, List.setIfInBounds_toArray, List.set_cons_zero, List.set_cons_succ]
  refine Fin.bin (some 72) (some (41, true)) .eql 3 3 (Operand.tmp 68) (Operand.tmp 71) (.int .i64 (rank (M) n)) (.int .i64 (rank (M) n)) (.bool true) rfl rfl rfl rfl (fun w_ => ⟨by first | rfl | go_simp, by go_simp⟩) ?_
  simp only [Act.put, List.setIfInBounds_toArray, List.set_cons_zero, List.set_cons_succ]
  refine Fin.pick (some 73) none (Operand.tmp 65) (Operand.tmp 72) (Operand.const (Value.bool false)) true (.bool true) rfl rfl rfl rfl ?_
  simp only [Act.put, List.setIfInBounds_toArray, List.set_cons_zero, List.set_cons_succ]
  refine Fin.mv (some 74) none (Operand.tmp 73) (.bool true) rfl rfl rfl ?_
  simp only [Act.put, List.setIfInBounds_toArray, List.set_cons_zero, List.set_cons_succ]
  refine Fin.mv (some 75) (some (50, true)) (Operand.tmp 11) (.slice ad ((allTo M 256).length) c) rfl rfl rfl ?_
  simp only [Act.put, List.setIfInBounds_toArray, List.set_cons_zero, List.set_cons_succ]
  refine Fin.load (some 76) (some (50, true)) 26 (Operand.tmp 8) (g8) (bl M) 26 _ rfl rfl rfl (fun w_ h_ => Sr.blk h_ (g8, bl M, 26) (by simp)) Try.underlying26 rfl (by rw [bl_size]; exact infoS) ?_
  simp only [Act.put, List.setIfInBounds_toArray, List.set_cons_zero, List.set_cons_succ]
  refine Fin.call (some 77) (some (50, true)) 19 #[Operand.tmp 76] #[26] #[.agg (bl M)] rfl rfl rfl (enter19 _) ?_
  refine (sall_any (M) _).mono ?_
  rintro e wn53 ⟨va53, rfl, hb, hO53⟩
  have hS := Sr.below hS hb
  clear hb
  refine ⟨_, rfl, hS, ?_⟩
  simp only [Act.put, List.setIfInBounds_toArray, List.set_cons_zero, List.set_cons_succ]
  refine Fin.call (some 78) (some (50, true)) 18 #[Operand.tmp 75, Operand.tmp 77] #[28, 28] #[.slice ad ((allTo M 256).length) c, va53] rfl rfl rfl (enter18 _) ?_
  refine (same_any (.slice ad ((allTo M 256).length) c) (va53) (allTo M 256) (allTo M 256) _ hS.row.reads hO53.reads).mono ?_
  rintro e wn54 ⟨rfl, hb⟩
  rw [decide_eq_true rfl]
  have hS := Sr.below hS hb
  clear hb
  refine ⟨_, rfl, hS, ?_⟩
  simp only [Act.put, List.setIfInBounds_toArray, List.set_cons_zero, List.set_cons_succ]
  refine Fin.pick (some 79) none (Operand.tmp 74) (Operand.tmp 78) (Operand.const (Value.bool false)) true (.bool true) rfl rfl rfl rfl ?_
  simp only [Act.put, List.setIfInBounds_toArray, List.set_cons_zero, List.set_cons_succ]
  refine Fin.mv (some 80) none (Operand.tmp 79) (.bool true) rfl rfl rfl ?_
  simp only [Act.put, List.setIfInBounds_toArray, List.set_cons_zero, List.set_cons_succ]
  refine Fin.load (some 81) (some (56, true)) 24 (Operand.tmp 7) (g7) (mk4 M) 24 _ rfl rfl rfl (fun w_ h_ => Sr.blk h_ (g7, mk4 M, 24) (by simp)) Try.underlying24 rfl (by rw [mk4_size]; exact infoM) ?_
  simp only [Act.put, List.setIfInBounds_toArray, List.set_cons_zero, List.set_cons_succ]
  refine Fin.mv (some 83) (some (56, true)) (Operand.tmp 11) (.slice ad ((allTo M 256).length) c) rfl rfl rfl ?_
  simp only [Act.put, List.setIfInBounds_toArray, List.set_cons_zero, List.set_cons_succ]
  refine Fin.len (some 84) (some (56, true)) 28 (Operand.tmp 83) (ad) ((allTo M 256).length) (c) rfl rfl rfl (by kernel_rfl) ?_
  simp only [Act.put, List.setIfInBounds_toArray, List.set_cons_zero, List.set_cons_succ]
  refine Fin.call (some 82) (some (56, true)) 20 #[Operand.tmp 81] #[24] #[.agg (mk4 M)] rfl rfl rfl (enter20 _) ?_
  refine (count_any (M) _).mono ?_
  rintro e wn58 ⟨rfl, hb⟩
  have hS := Sr.below hS hb
  clear hb
  refine ⟨_, rfl, hS, ?_⟩
  simp only [Act.put, List.setIfInBounds_toArray, List.set_cons_zero, List.set_cons_succ]
  refine Fin.bin (some 85) (some (56, true)) .eql 3 3 (Operand.tmp 82) (Operand.tmp 84) (.int .i64 ((rnk (M) 256 : Nat) : Int)) (.int .i64 (((allTo M 256).length : Nat) : Int)) (.bool true) rfl rfl rfl rfl (fun w_ => ⟨by first | rfl | go_simp, by go_simp⟩) ?_
  simp only [Act.put, List.setIfInBounds_toArray, List.set_cons_zero, List.set_cons_succ]
  refine Fin.pick (some 86) none (Operand.tmp 80) (Operand.tmp 85) (Operand.const (Value.bool false)) true (.bool true) rfl rfl rfl rfl ?_
  simp only [Act.put, List.setIfInBounds_toArray, List.set_cons_zero, List.set_cons_succ]
  refine Fin.asg (some 12) none (Operand.tmp 86) (.bool true) rfl rfl rfl ?_
  simp only [Act.put, List.setIfInBounds_toArray, List.set_cons_zero, List.set_cons_succ]
  simp only [Fin]
  clear hSr hlen
  go_wp2_with fail
  refine (over_any 0 _ (allTo M 256) _ (hS.row.mono (Nat.zero_le _)) (Nat.zero_le _) (by have := allTo_le M 256; omega)).mono ?_
  rintro e w6 ⟨rfl, hg6⟩
  have hS7 : Sr w.heap.size w [(w.heap.size, mk4 M, 23), (g7, mk4 M, 24), (g8, bl M, 26), (g9, bl (ins M k), 26), (g10, bl (del M k), 26)] [] w6 := ⟨hS.sx.grownO hg6 fun j hj => by have := (hS.row.base j hj).1; refine ⟨by omega, ?_⟩; simp only [List.forall_mem_cons]; exact ⟨by omega, by omega, by omega, by omega, by omega, by simp⟩, fun p hp => by cases hp⟩
  clear hS hg6
  go_wp2_with fail
  have hS := hS7.drew
  refine region_fin [(0, true), (1, true), (2, true), (4, true), (3, false), (5, false), (6, false), (7, true), (8, true), (9, true), (10, true), (11, true), (12, true), (13, true), (14, false), (15, true), (16, true)] folm (by kernel_rfl) (by kernel_rfl) (by kernel_rfl) (fun d _ _ _ _ h => by cases d <;> exact h) (Sr w.heap.size w [(w.heap.size, mk4 M, 23), (g7, mk4 M, 24), (g8, bl M, 26), (g9, bl (ins M k), 26), (g10, bl (del M k), 26)] []) (hS7.drew) ?_
  refine Fin.mv (some 89) none (Operand.tmp 12) (.bool true) rfl rfl rfl ?_
  simp only [Act.put, List.setIfInBounds_toArray, List.set_cons_zero, List.set_cons_succ]
  refine Fin.mv (some 90) none (Operand.tmp 89) (.bool true) rfl rfl rfl ?_
  simp only [Act.put, List.setIfInBounds_toArray, List.set_cons_zero, List.set_cons_succ]
  refine Fin.load (some 91) (some (1, true)) 24 (Operand.tmp 7) (g7) (mk4 M) 24 _ rfl rfl rfl (fun w_ h_ => Sr.blk h_ (g7, mk4 M, 24) (by simp)) Try.underlying24 rfl (by rw [mk4_size]; exact infoM) ?_
  simp only [Act.put, List.setIfInBounds_toArray, List.set_cons_zero, List.set_cons_succ]
  refine Fin.load (some 93) (some (1, true)) 26 (Operand.tmp 8) (g8) (bl M) 26 _ rfl rfl rfl (fun w_ h_ => Sr.blk h_ (g8, bl M, 26) (by simp)) Try.underlying26 rfl (by rw [bl_size]; exact infoS) ?_
  simp only [Act.put, List.setIfInBounds_toArray, List.set_cons_zero, List.set_cons_succ]
  refine Fin.call (some 92) (some (1, true)) 7 #[Operand.tmp 91] #[24] #[.agg (mk4 M)] rfl rfl rfl (enter7 _) ?_
  refine (all_any (M) _).mono ?_
  rintro e wn3 ⟨va3, rfl, hb, hO3⟩
  have hS := Sr.below hS hb
  clear hb
  refine ⟨_, rfl, hS, ?_⟩
  simp only [Act.put, List.setIfInBounds_toArray, List.set_cons_zero, List.set_cons_succ]
  refine Fin.call (some 94) (some (1, true)) 19 #[Operand.tmp 93] #[26] #[.agg (bl M)] rfl rfl rfl (enter19 _) ?_
  refine (sall_any (M) _).mono ?_
  rintro e wn5 ⟨va5, rfl, hb, hO5⟩
  have hO3 := hO3.below hb
  have hS := Sr.below hS hb
  clear hb
  refine ⟨_, rfl, hS, ?_⟩
  simp only [Act.put, List.setIfInBounds_toArray, List.set_cons_zero, List.set_cons_succ]
  refine Fin.call (some 95) (some (1, true)) 18 #[Operand.tmp 92, Operand.tmp 94] #[28, 28] #[va3, va5] rfl rfl rfl (enter18 _) ?_
  refine (same_any (va3) (va5) (allTo M 256) (allTo M 256) _ hO3.reads hO5.reads).mono ?_
  rintro e wn6 ⟨rfl, hb⟩
  rw [decide_eq_true rfl]
  have hS := Sr.below hS hb
  clear hb
  refine ⟨_, rfl, hS, ?_⟩
  simp only [Act.put, List.setIfInBounds_toArray, List.set_cons_zero, List.set_cons_succ]
  refine Fin.pick (some 96) none (Operand.tmp 90) (Operand.tmp 95) (Operand.const (Value.bool false)) true (.bool true) rfl rfl rfl rfl ?_
  simp only [Act.put, List.setIfInBounds_toArray, List.set_cons_zero, List.set_cons_succ]
  refine Fin.mv (some 97) none (Operand.tmp 96) (.bool true) rfl rfl rfl ?_
  simp only [Act.put, List.setIfInBounds_toArray, List.set_cons_zero, List.set_cons_succ]
  refine Fin.load (some 98) (some (8, true)) 24 (Operand.tmp 7) (g7) (mk4 M) 24 _ rfl rfl rfl (fun w_ h_ => Sr.blk h_ (g7, mk4 M, 24) (by simp)) Try.underlying24 rfl (by rw [mk4_size]; exact infoM) ?_
  simp only [Act.put, List.setIfInBounds_toArray, List.set_cons_zero, List.set_cons_succ]
  refine Fin.load (some 99) (some (8, true)) 23 (Operand.tmp 3) (w.heap.size) (mk4 M) 23 _ rfl rfl rfl (fun w_ h_ => Sr.blk h_ (w.heap.size, mk4 M, 23) (by simp)) Try.underlying23 rfl (by rw [mk4_size]; exact infoW) ?_
  simp only [Act.put, List.setIfInBounds_toArray, List.set_cons_zero, List.set_cons_succ]
  refine Fin.bin (some 100) (some (8, true)) .eql 24 24 (Operand.tmp 98) (Operand.tmp 99) (.agg (mk4 M)) (.agg (mk4 M)) (.bool true) rfl rfl rfl rfl (fun w_ => ⟨by first | rfl | go_simp, by go_simp⟩) ?_
  simp only [Act.put, List.setIfInBounds_toArray, List.set_cons_zero, List.set_cons_succ]
  refine Fin.pick (some 101) none (Operand.tmp 97) (Operand.tmp 100) (Operand.const (Value.bool false)) true (.bool true) rfl rfl rfl rfl ?_
  simp only [Act.put, List.setIfInBounds_toArray, List.set_cons_zero, List.set_cons_succ]
  refine Fin.mv (some 102) none (Operand.tmp 101) (.bool true) rfl rfl rfl ?_
  simp only [Act.put, List.setIfInBounds_toArray, List.set_cons_zero, List.set_cons_succ]
  refine Fin.call (some 103) (some (13, true)) 22 #[] #[] #[] rfl rfl rfl (enter22 _) ?_
  refine (awake_any _).mono ?_
  rintro e wn14 ⟨rfl, hb⟩
  have hS := Sr.below hS hb
  clear hb
  refine ⟨_, rfl, hS, ?_⟩
  simp only [Act.put, List.setIfInBounds_toArray, List.set_cons_zero, List.set_cons_succ]
  refine Fin.pick (some 104) none (Operand.tmp 102) (Operand.tmp 103) (Operand.const (Value.bool false)) true (.bool true) rfl rfl rfl rfl ?_
  simp only [Act.put, List.setIfInBounds_toArray, List.set_cons_zero, List.set_cons_succ]
  refine Fin.asg (some 6) none (Operand.tmp 104) (.bool true) rfl rfl rfl ?_
  simp only [Act.put, List.setIfInBounds_toArray, List.set_cons_zero, List.set_cons_succ]
  simp only [Fin]
  go_wp2_with fail
  go_ret
  exact ⟨rfl, hS.sx.low⟩
end Go.Proofs.Ytnemnchldjohgaa
