
/- Contract of project.ruleOf: the functions of a projection. -/
import Derived.Test.YtmagppjmjjkbjaaPrjB
namespace Go.Proofs.Ytmagppjmjjkbjaa
open Go.RowKit
set_option linter.unusedVariables false

/-- One result, a struct in a block of its own. -/
theorem results_cell1 {P : Program} {fn : Func} {p : Tmp} {ty : TypeId} (h : fn.results = #[.cell p ty]) (tmps : Array Value) (w : World) (g : Nat) (T : TypeId) (cs : Array Value) (fr : Nat × Nat) (d : TypeDesc)
    (hp : tmps.getD p undef = .pointer (some ⟨g, 0, none⟩)) (hg : w.heap[g]? = some (.cells cs T fr))
    (hu : P.underlying ty = some d) (hd : (match d with | .struct _ | .array _ _ => true | _ => false) = true) (hi : (P.info? ty).map (·.size) = some cs.size) :
    (results fn tmps).run P w = .ok (.agg cs) w := by
  have hp' : tmps[p]?.getD undef = .pointer (some ⟨g, 0, none⟩) := by simpa using hp
  simp [results, h, hp', asAddr, run_loadVar_row w g T ty cs fr d hg hu hd hi]

theorem bcell {W w1 : World} (hb : Q W w1) : (∀ b o, b < W.heap.size → w1.cell? ⟨b, o, none⟩ = W.cell? ⟨b, o, none⟩) ∧ (∀ b o, b < W.heap.size → w1.frozen? ⟨b, o, none⟩ = W.frozen? ⟨b, o, none⟩) := ⟨fun b o h => hb.cell h, fun b o h => hb.frozen h⟩
/-- The blocks from base on that are there stay as they are. -/
def Keep (base : Nat) (w w' : World) : Prop := w.heap.size ≤ w'.heap.size ∧ ∀ k, base ≤ k → k < w.heap.size → w'.heap[k]? = w.heap[k]?
theorem Keep.of {base : Nat} {w w' : World} (q : Q w w') : Keep base w w' := ⟨q.sz, fun k _ h => q.block h⟩
theorem Keep.trans {base : Nat} {a b c : World} (h : Keep base a b) (k : Keep base b c) : Keep base a c := ⟨Nat.le_trans h.1 k.1, fun i hi hl => (k.2 i hi (Nat.lt_of_lt_of_le hl h.1)).trans (h.2 i hi hl)⟩
theorem Keep.setCell {base : Nat} {a b : World} (h : Keep base a b) {g i : Nat} (hg : g < base) (u : Value) : Keep base a (b.setCell ⟨g, i, none⟩ u) :=
  ⟨by simpa using h.1, fun k hk hl => (heap_setCell_other _ _ _ _ (show k ≠ g by omega)).trans (h.2 k hk hl)⟩
theorem Keep.cell {base : Nat} {w w' : World} (h : Keep base w w') {b o : Nat} {v : Value} (hb : base ≤ b) (hc : w.cell? ⟨b, o, none⟩ = some v) : w'.cell? ⟨b, o, none⟩ = some v :=
  (World.cell?_of_block (h.2 b hb (block_lt_of_cell hc))).trans hc
/-- A function of the program with a body. -/
def Body (f : FuncId) : Prop := ∀ (args : Array Value) (w : World), (callFunc f args).run Try.prog w = .ok (.enter f args) w
/-- The eastern function of a projection, in a world and all later ones. -/
def EastOk (base : Nat) (w : World) (E : Value) (K L : Int) : Prop := ∃ f c, E = .func (Fn.func f) #[] #[c] ∧ Body f ∧ ∀ w', Keep base w w' → ∀ x y : Int, Prj.vld x y → Calls Try.prog f #[.int .i64 x, .int .i64 y, c] w' fun e w'' => e = .returned (.int .i64 (Prj.eu K L x y)) ∧ Q w' w''
/-- The northern one: it holds one variable or two. -/
def NorthOk (base : Nat) (w : World) (N : Value) (K A : Int) : Prop :=
  (∃ f c, N = .func (Fn.func f) #[] #[c] ∧ Body f ∧ ∀ w', Keep base w w' → ∀ y : Int, -306000 ≤ y → y ≤ 306000 → Calls Try.prog f #[.int .i64 y, c] w' fun e w'' => e = .returned (.int .i64 (Prj.nv K A y)) ∧ Q w' w'') ∨
  (∃ f c d, N = .func (Fn.func f) #[] #[c, d] ∧ Body f ∧ ∀ w', Keep base w w' → ∀ y : Int, -306000 ≤ y → y ≤ 306000 → Calls Try.prog f #[.int .i64 y, c, d] w' fun e w'' => e = .returned (.int .i64 (Prj.nv K A y)) ∧ Q w' w'')
theorem EastOk.next {base : Nat} {w w' : World} {E : Value} {K L : Int} (h : EastOk base w E K L) (q : Keep base w w') : EastOk base w' E K L := by
  obtain ⟨f, c, e, b, H⟩ := h
  exact ⟨f, c, e, b, fun w'' q' => H w'' (q.trans q')⟩
theorem NorthOk.next {base : Nat} {w w' : World} {N : Value} {K A : Int} (h : NorthOk base w N K A) (q : Keep base w w') : NorthOk base w' N K A := by
  rcases h with ⟨f, c, e, b, H⟩ | ⟨f, c, d, e, b, H⟩
  · exact .inl ⟨f, c, e, b, fun w'' q' => H w'' (q.trans q')⟩
  · exact .inr ⟨f, c, d, e, b, fun w'' q' => H w'' (q.trans q')⟩
def RulePost (K L A : Int) (w : World) (e : Ending) (w' : World) : Prop := ∃ E N, e = .returned (.agg #[E, N]) ∧ EastOk w.heap.size w' E K L ∧ NorthOk w.heap.size w' N K A ∧ Q w w'

set_option maxRecDepth 100000 in
theorem east_plain (K L : Int) (hK : K ≠ 2) (hl0 : -648000 ≤ L) (hl1 : L ≤ 648000) (base B : Nat) (hB : base ≤ B) (w : World) (hc : w.cell? ⟨B, 1, none⟩ = some (.int .i64 L)) : EastOk base w (.func (Fn.func 36) #[] #[.pointer (some ⟨B, 0, none⟩)]) K L :=
  ⟨_, _, rfl, fun _ _ => rfl, fun w' q x y v => by
    have := rule1 x y L B w' v.1 v.2.1 hl0 hl1 (q.cell hB hc)
    unfold Prj.eu
    rw [if_neg hK]
    exact this⟩
set_option maxRecDepth 100000 in
theorem east_sine (L : Int) (hl0 : -648000 ≤ L) (hl1 : L ≤ 648000) (base B : Nat) (hB : base ≤ B) (w : World) (hc : w.cell? ⟨B, 1, none⟩ = some (.int .i64 L)) : EastOk base w (.func (Fn.func 39) #[] #[.pointer (some ⟨B, 0, none⟩)]) 2 L :=
  ⟨_, _, rfl, fun _ _ => rfl, fun w' q x y v => rule3 x y L B w' v.1 v.2.1 hl0 hl1 (by have := v.2.2.1; omega) (by have := v.2.2.2; omega) (q.cell hB hc)⟩
set_option maxRecDepth 100000 in
theorem north_plain (K A : Int) (h3 : K ≠ 3) (h4 : K ≠ 4) (ha0 : -306000 ≤ A) (ha1 : A ≤ 306000) (base B : Nat) (hB : base ≤ B) (w : World) (hc : w.cell? ⟨B, 2, none⟩ = some (.int .i64 A)) : NorthOk base w (.func (Fn.func 38) #[] #[.pointer (some ⟨B, 0, none⟩)]) K A :=
  .inl ⟨_, _, rfl, fun _ _ => rfl, fun w' q y h0 h1 => by
    have := rule2 y A B w' h0 h1 ha0 ha1 (q.cell hB hc)
    unfold Prj.nv
    rw [if_neg h3, if_neg h4]
    exact this⟩
set_option maxRecDepth 100000 in
theorem north_merc (A : Int) (ha0 : -306000 ≤ A) (ha1 : A ≤ 306000) (base B D : Nat) (hB : base ≤ B) (hD : base ≤ D) (w : World) (hd : w.cell? ⟨D, 0, none⟩ = some (.func (Fn.func 42) #[] #[])) (hc : w.cell? ⟨B, 0, none⟩ = some (.int .i64 (Prj.art A))) : NorthOk base w (.func (Fn.func 45) #[] #[.pointer (some ⟨D, 0, none⟩), .pointer (some ⟨B, 0, none⟩)]) 3 A :=
  .inr ⟨_, _, _, rfl, fun _ _ => rfl, fun w' q y h0 h1 => rule5 y _ B D w' h0 h1 (Prj.art_bd A ha0 ha1).1 (Prj.art_bd A ha0 ha1).2 (q.cell hD hd) (q.cell hB hc)⟩
set_option maxRecDepth 100000 in
theorem north_cyl (A : Int) (base B : Nat) (hB : base ≤ B) (w : World) (hc : w.cell? ⟨B, 0, none⟩ = some (.int .i64 (Ser.sin A))) : NorthOk base w (.func (Fn.func 46) #[] #[.pointer (some ⟨B, 0, none⟩)]) 4 A :=
  .inl ⟨_, _, rfl, fun _ _ => rfl, fun w' q y h0 h1 => rule6 y _ B w' h0 h1 (Ser.sin_in A).1 (Ser.sin_in A).2 (q.cell hB hc)⟩

set_option maxHeartbeats 4000000 in
theorem ruleOf1 (L A S : Int) (w : World) (v : Prj.vld L A) : Calls Try.prog 23 #[.agg #[.int .i64 1, .int .i64 L, .int .i64 A, .int .i64 S]] w (RulePost 1 L A w) := by
  have hmf : ∀ (fn : Fn) (first cap : Array Value) (w : World), (Instr.makeFunc fn first cap).run Try.prog w = .ok (.func fn first cap) w := fun _ _ _ _ => rfl
  have HV := Lib.hid v
  clear v
  go_enter Try.func23, Try.ntmps23
  go_wp2_with fail
  refine bodyPost_ret (v := .agg #[.func (Fn.func 36) #[] #[.pointer (some ⟨w.heap.size, 0, none⟩)], .func (Fn.func 38) #[] #[.pointer (some ⟨w.heap.size, 0, none⟩)]]) (by simp [results, Try.results23, go_sem]) rfl ⟨_, _, rfl, east_plain 1 L (by omega) HV.out.1 HV.out.2.1 _ _ (by omega) _ ?_, north_plain 1 A (by omega) (by omega) HV.out.2.2.1 HV.out.2.2.2 _ _ (by omega) _ ?_, ?_⟩
  · simp [go_sem]
  · simp [go_sem]
  · exact (((Q.refl w).alloc _).alloc _).alloc _

set_option maxHeartbeats 4000000 in
theorem ruleOf2 (L A S : Int) (w : World) (v : Prj.vld L A) : Calls Try.prog 23 #[.agg #[.int .i64 2, .int .i64 L, .int .i64 A, .int .i64 S]] w (RulePost 2 L A w) := by
  have hmf : ∀ (fn : Fn) (first cap : Array Value) (w : World), (Instr.makeFunc fn first cap).run Try.prog w = .ok (.func fn first cap) w := fun _ _ _ _ => rfl
  have HV := Lib.hid v
  clear v
  go_enter Try.func23, Try.ntmps23
  go_wp2_with fail
  refine bodyPost_ret (v := .agg #[.func (Fn.func 39) #[] #[.pointer (some ⟨w.heap.size, 0, none⟩)], .func (Fn.func 38) #[] #[.pointer (some ⟨w.heap.size, 0, none⟩)]]) (by simp [results, Try.results23, go_sem]) rfl ⟨_, _, rfl, east_sine L HV.out.1 HV.out.2.1 _ _ (by omega) _ ?_, north_plain 2 A (by omega) (by omega) HV.out.2.2.1 HV.out.2.2.2 _ _ (by omega) _ ?_, ?_⟩
  · simp [go_sem]
  · simp [go_sem]
  · exact (((Q.refl w).alloc _).alloc _).alloc _

set_option maxHeartbeats 4000000 in
theorem ruleOf4 (L A S : Int) (w : World) (v : Prj.vld L A) : Calls Try.prog 23 #[.agg #[.int .i64 4, .int .i64 L, .int .i64 A, .int .i64 S]] w (RulePost 4 L A w) := by
  have hmf : ∀ (fn : Fn) (first cap : Array Value) (w : World), (Instr.makeFunc fn first cap).run Try.prog w = .ok (.func fn first cap) w := fun _ _ _ _ => rfl
  have HV := Lib.hid v
  have HC := Lib.hid (fun W => sin_any A (by have := v.2.2.1; omega) (by have := v.2.2.2; omega) W)
  clear v
  go_enter Try.func23, Try.ntmps23
  go_wp2_with fail
  refine (HC.out _).mono ?_
  rintro e w1 ⟨rfl, q1⟩
  obtain ⟨hc, hf⟩ := bcell q1
  have hz : w.heap.size + 2 < w1.heap.size := by have := q1.sz; simp at this; omega
  have hz1 : w.heap.size + 1 < w1.heap.size := by omega
  have hz0 : w.heap.size < w1.heap.size := by omega
  go_wp2_with fail
  refine bodyPost_ret (v := .agg #[.func (Fn.func 36) #[] #[.pointer (some ⟨w.heap.size, 0, none⟩)], .func (Fn.func 46) #[] #[.pointer (some ⟨w1.heap.size, 0, none⟩)]]) (by simp [results, Try.results23, go_sem, hc, hz1]) rfl ⟨_, _, rfl, east_plain 4 L (by omega) HV.out.1 HV.out.2.1 _ _ (by omega) _ ?_, north_cyl A _ _ (by omega) _ ?_, ?_⟩
  · simp [go_sem, hc, hz0]
  · simp [go_sem]
  · refine Q.alloc ?_ _
    repeat (refine Q.setCell ?_ (by simp; try omega) _)
    exact ((q1.behind _).behind _).behind _

set_option maxHeartbeats 4000000 in
theorem ruleOf3 (L A S : Int) (w : World) (v : Prj.vld L A) : Calls Try.prog 23 #[.agg #[.int .i64 3, .int .i64 L, .int .i64 A, .int .i64 S]] w (RulePost 3 L A w) := by
  have hmf : ∀ (fn : Fn) (first cap : Array Value) (w : World), (Instr.makeFunc fn first cap).run Try.prog w = .ok (.func fn first cap) w := fun _ _ _ _ => rfl
  have HV := Lib.hid v
  have HC := Lib.hid (fun W => rule4 A W v.2.2.1 v.2.2.2)
  clear v
  go_enter Try.func23, Try.ntmps23
  go_wp2_with fail
  refine (HC.out _).mono ?_
  rintro e w1 ⟨rfl, q1⟩
  obtain ⟨hc, hf⟩ := bcell q1
  have hz3 : w.heap.size + 3 < w1.heap.size := by have := q1.sz; simp at this; omega
  have hz : w.heap.size + 2 < w1.heap.size := by omega
  have hz1 : w.heap.size + 1 < w1.heap.size := by omega
  have hz0 : w.heap.size < w1.heap.size := by omega
  go_wp2_with fail
  refine bodyPost_ret (v := .agg #[.func (Fn.func 36) #[] #[.pointer (some ⟨w.heap.size, 0, none⟩)], .func (Fn.func 45) #[] #[.pointer (some ⟨w.heap.size + 3, 0, none⟩), .pointer (some ⟨w1.heap.size, 0, none⟩)]]) (by simp [results, Try.results23, go_sem, hc, hz1]) rfl ⟨_, _, rfl, east_plain 3 L (by omega) HV.out.1 HV.out.2.1 _ _ (by omega) _ ?_, north_merc A HV.out.2.2.1 HV.out.2.2.2 _ _ _ (by omega) (by omega) _ ?_ ?_, ?_⟩
  · simp [go_sem, hc, hz0]
  · simp [go_sem, hc, hz3]
  · simp [go_sem]
  · refine Q.alloc ?_ _
    repeat (refine Q.setCell ?_ (by simp; try omega) _)
    exact (((q1.behind _).behind _).behind _).behind _

theorem ruleOf_any (K L A S : Int) (w : World) (h : Prj.Ok K L A S) : Calls Try.prog 23 #[.agg #[.int .i64 K, .int .i64 L, .int .i64 A, .int .i64 S]] w (RulePost K L A w) := by
  obtain ⟨k0, k1, v, _, _⟩ := h
  obtain rfl | rfl | rfl | rfl : K = 1 ∨ K = 2 ∨ K = 3 ∨ K = 4 := by omega
  · exact ruleOf1 L A S w v
  · exact ruleOf2 L A S w v
  · exact ruleOf3 L A S w v
  · exact ruleOf4 L A S w v
end Go.Proofs.Ytmagppjmjjkbjaa
