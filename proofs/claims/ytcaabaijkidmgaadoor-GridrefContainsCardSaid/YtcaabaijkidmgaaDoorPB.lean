/- PB: joined texts. -/
import Derived.Test.YtcaabaijkidmgaaDoorPrjA
import Derived.Deep.RegionHeld3

/- Contracts of the closures that project.ruleOf makes. -/
namespace Go.Proofs.YtcaabaijkidmgaaDoor
open Go.RowKit
set_option linter.unusedVariables false

theorem rule1 (x y L : Int) (B : Nat) (w : World) (hx0 : -648000 ≤ x) (hx1 : x ≤ 648000) (hl0 : -648000 ≤ L) (hl1 : L ≤ 648000) (hc : w.cell? ⟨B, 1, none⟩ = some (.int .i64 L)) :
    Calls Tryd.prog 71 #[.int .i64 x, .int .i64 y, .pointer (some ⟨B, 0, none⟩)] w fun e w' => e = .returned (.int .i64 (Ser.rad (x - L))) ∧ Q w w' := by
  have HR := Lib.hid (fun W => rad_any (x - L) (by omega) (by omega) W)
  generalize Ser.rad (x - L) = r at *
  go_enter Tryd.func71, Tryd.ntmps71
  go_wp2_with fail
  refine (HR.out _).mono ?_
  rintro e w1 ⟨rfl, rfl⟩
  go_wp2_with fail
  go_ret
  exact ⟨rfl, Q.refl _⟩
theorem rule2 (y A : Int) (B : Nat) (w : World) (hx0 : -306000 ≤ y) (hx1 : y ≤ 306000) (hl0 : -306000 ≤ A) (hl1 : A ≤ 306000) (hc : w.cell? ⟨B, 2, none⟩ = some (.int .i64 A)) :
    Calls Tryd.prog 73 #[.int .i64 y, .pointer (some ⟨B, 0, none⟩)] w fun e w' => e = .returned (.int .i64 (Ser.rad (y - A))) ∧ Q w w' := by
  have HR := Lib.hid (fun W => rad_any (y - A) (by omega) (by omega) W)
  generalize Ser.rad (y - A) = r at *
  go_enter Tryd.func73, Tryd.ntmps73
  go_wp2_with fail
  refine (HR.out _).mono ?_
  rintro e w1 ⟨rfl, rfl⟩
  go_wp2_with fail
  go_ret
  exact ⟨rfl, Q.refl _⟩
theorem rule3 (x y L : Int) (B : Nat) (w : World) (hx0 : -648000 ≤ x) (hx1 : x ≤ 648000) (hl0 : -648000 ≤ L) (hl1 : L ≤ 648000) (hy0 : -9223372036854775808 ≤ y) (hy1 : y ≤ 9223372036854775807) (hc : w.cell? ⟨B, 1, none⟩ = some (.int .i64 L)) :
    Calls Tryd.prog 74 #[.int .i64 x, .int .i64 y, .pointer (some ⟨B, 0, none⟩)] w fun e w' => e = .returned (.int .i64 (Ser.rnd (Ser.rad (x - L) * Ser.cos y) 1073741824)) ∧ Q w w' := by
  have HR := Lib.hid (fun W => rad_any (x - L) (by omega) (by omega) W)
  have HC := Lib.hid (fun W => cos_any y hy0 hy1 W)
  obtain ⟨b0, b1⟩ := Prj.sine_bd (x - L) y (by omega) (by omega)
  have HN := Lib.hid (fun W => round_pos (Ser.rad (x - L) * Ser.cos y) 1073741824 (by omega) (by omega) (by omega) (by omega) W)
  rw [rnd_same] at HN
  generalize Ser.rad (x - L) = r at *
  generalize Ser.cos y = c at *
  generalize Ser.rnd (r * c) 1073741824 = n at *
  obtain ⟨p, hp⟩ : ∃ p, r * c = p := ⟨_, rfl⟩
  rw [hp] at HN b0 b1
  have e1 : wrap64 (r * c) = p := by rw [hp]; exact IntWalk.wrap64_in _ ⟨by omega, by omega⟩
  clear hp
  go_enter Tryd.func74, Tryd.ntmps74
  go_wp2_with fail
  refine (HR.out _).mono ?_
  rintro e w1 ⟨rfl, rfl⟩
  go_wp2_with fail
  refine (HC.out _).mono ?_
  rintro e w2 ⟨rfl, q2⟩
  go_wp2_with fail
  refine (HN.out _).mono ?_
  rintro e w3 ⟨rfl, rfl⟩
  go_wp2_with fail
  go_ret
  exact ⟨rfl, q2⟩
theorem rule4 (y : Int) (w : World) (hx0 : -306000 ≤ y) (hx1 : y ≤ 306000) :
    Calls Tryd.prog 77 #[.int .i64 y] w fun e w' => e = .returned (.int .i64 (Prj.art y)) ∧ Q w w' := by
  have HS := Lib.hid (fun W => sin_any y (by omega) (by omega) W)
  have hb := Prj.sin_lat y hx0 hx1
  have HA := Lib.hid (fun W => artanh_any (Ser.sin y) hb.1 hb.2 W)
  unfold Prj.art
  generalize Ser.artanh (Ser.sin y) = r at *
  generalize Ser.sin y = c at *
  go_enter Tryd.func77, Tryd.ntmps77
  go_wp2_with fail
  refine (HS.out _).mono ?_
  rintro e w1 ⟨rfl, q1⟩
  go_wp2_with fail
  refine (HA.out _).mono ?_
  rintro e w2 ⟨rfl, q2⟩
  go_wp2_with fail
  go_ret
  exact ⟨rfl, q1.trans q2⟩
theorem one_next {c : Int} {B : Nat} {wk u v : World} (h : u.cell? ⟨B, 0, none⟩ = some (.int .i64 c) ∧ Q wk u) (q : Q u v) : v.cell? ⟨B, 0, none⟩ = some (.int .i64 c) ∧ Q wk v :=
  ⟨(q.cell (block_lt_of_cell h.1)).trans h.1, h.2.trans q⟩
theorem two_next {c : Int} {f : Value} {B D : Nat} {wk u v : World} (h : u.cell? ⟨D, 0, none⟩ = some f ∧ u.cell? ⟨B, 0, none⟩ = some (.int .i64 c) ∧ Q wk u) (q : Q u v) : v.cell? ⟨D, 0, none⟩ = some f ∧ v.cell? ⟨B, 0, none⟩ = some (.int .i64 c) ∧ Q wk v :=
  ⟨(q.cell (block_lt_of_cell h.1)).trans h.1, (q.cell (block_lt_of_cell h.2.1)).trans h.2.1, h.2.2.trans q⟩
theorem rule6 (y c : Int) (B : Nat) (w : World) (hx0 : -306000 ≤ y) (hx1 : y ≤ 306000) (hl0 : -1073741824 ≤ c) (hl1 : c ≤ 1073741824) (hc : w.cell? ⟨B, 0, none⟩ = some (.int .i64 c)) :
    Calls Tryd.prog 81 #[.int .i64 y, .pointer (some ⟨B, 0, none⟩)] w fun e w' => e = .returned (.int .i64 (Ser.sin y - c)) ∧ Q w w' := by
  have HS := Lib.hid (fun W => sin_any y (by omega) (by omega) W)
  have hb := Ser.sin_in y
  obtain ⟨b0, b1⟩ := hb
  generalize Ser.sin y = s at *
  have e1 : IntKind.i64.wrap (s - c) = s - c := IntWalk.i64_in _ (by omega)
  have HK := Lib.hid (And.intro hc (Q.refl w))
  go_enter Tryd.func81, Tryd.ntmps81
  go_wp2_with fail
  go_region_held3 (fun v => v.cell? ⟨B, 0, none⟩ = some (.int .i64 c) ∧ Q w v) ((first | (exact one_next HK.out ((Q.refl _).drew)) | (exact one_next HK.out (((Q.refl _).drew).trans (by assumption)))))
    (first | (go_at_call 79; refine (HS.out _).mono ?_; (rintro e w' ⟨rfl, q⟩)))
  all_goals
    go_wp2_with fail
    go_ret
    exact ⟨rfl, ((Q.refl _).drew).trans q⟩
theorem rule5 (y c : Int) (B D : Nat) (w : World) (hx0 : -306000 ≤ y) (hx1 : y ≤ 306000) (hl0 : -64000000000 ≤ c) (hl1 : c ≤ 64000000000) (hd : w.cell? ⟨D, 0, none⟩ = some (.func (Fn.func 77) #[] #[])) (hc : w.cell? ⟨B, 0, none⟩ = some (.int .i64 c)) :
    Calls Tryd.prog 80 #[.int .i64 y, .pointer (some ⟨D, 0, none⟩), .pointer (some ⟨B, 0, none⟩)] w fun e w' => e = .returned (.int .i64 (Prj.art y - c)) ∧ Q w w' := by
  have HS := Lib.hid (fun W => rule4 y W hx0 hx1)
  have hb := Prj.art_bd y hx0 hx1
  obtain ⟨b0, b1⟩ := hb
  generalize Prj.art y = s at *
  have e1 : IntKind.i64.wrap (s - c) = s - c := IntWalk.i64_in _ (by omega)
  have HK := Lib.hid (And.intro hd (And.intro hc (Q.refl w)))
  go_enter Tryd.func80, Tryd.ntmps80
  go_wp2_with fail
  go_region_held3 (fun v => v.cell? ⟨D, 0, none⟩ = some (.func (Fn.func 77) #[] #[]) ∧ v.cell? ⟨B, 0, none⟩ = some (.int .i64 c) ∧ Q w v) ((first | (exact two_next HK.out ((Q.refl _).drew)) | (exact two_next HK.out (((Q.refl _).drew).trans (by assumption)))))
    (first | (go_at_call 77; refine (HS.out _).mono ?_; (rintro e w' ⟨rfl, q⟩)))
  all_goals
    go_wp2_with fail
    go_ret
    exact ⟨rfl, ((Q.refl _).drew).trans q⟩
end Go.Proofs.YtcaabaijkidmgaaDoor


/- Contract of project.ruleOf: the functions of a projection. -/
namespace Go.Proofs.YtcaabaijkidmgaaDoor
open Go.RowKit
set_option linter.unusedVariables false

/-- One result, a struct in a block of its own. -/
theorem results_cell1 {P : Program} {fn : Func} {p : Tmp} {ty : TypeId} (h : fn.results = #[.cell p ty]) (tmps : Array Value) (w : World) (g : Nat) (T : TypeId) (cs : Array Value) (fr : Nat × Nat) (d : TypeDesc)
    (hp : tmps.getD p undef = .pointer (some ⟨g, 0, none⟩)) (hg : w.heap[g]? = some (.cells cs T fr))
    (hu : P.underlying ty = some d) (hd : (match d with | .struct _ | .array _ _ => true | _ => false) = true) (hi : (P.info? ty).map (·.size) = some cs.size) :
    (results fn tmps).run P w = .ok (.agg cs) w := by
  have hp' : tmps[p]?.getD undef = .pointer (some ⟨g, 0, none⟩) := by simpa using hp
  simp [results, h, hp', asAddr, run_loadVar_row w g T ty cs fr d hg hu hd hi]

theorem bcell {W w1 : World} (hb : Q W w1) : (∀ b o, b < W.heap.size → w1.cell? ⟨b, o, none⟩ = W.cell? ⟨b, o, none⟩) ∧ (∀ b o, b < W.heap.size → w1.frozen? ⟨b, o, none⟩ = W.frozen? ⟨b, o, none⟩) := ⟨fun b o h => hb.cell h, fun b o h => hb.frozen h⟩
/-- The blocks from base on that are there stay as they are. -/
def Keep (base : Nat) (w w' : World) : Prop := w.heap.size ≤ w'.heap.size ∧ ∀ k, base ≤ k → k < w.heap.size → w'.heap[k]? = w.heap[k]?
theorem Keep.of {base : Nat} {w w' : World} (q : Q w w') : Keep base w w' := ⟨q.sz, fun k _ h => q.block h⟩
theorem Keep.trans {base : Nat} {a b c : World} (h : Keep base a b) (k : Keep base b c) : Keep base a c := ⟨Nat.le_trans h.1 k.1, fun i hi hl => (k.2 i hi (Nat.lt_of_lt_of_le hl h.1)).trans (h.2 i hi hl)⟩
theorem Keep.setCell {base : Nat} {a b : World} (h : Keep base a b) {g i : Nat} (hg : g < base) (u : Value) : Keep base a (b.setCell ⟨g, i, none⟩ u) :=
  ⟨by simpa using h.1, fun k hk hl => (heap_setCell_other _ _ _ _ (show k ≠ g by omega)).trans (h.2 k hk hl)⟩
theorem Keep.cell {base : Nat} {w w' : World} (h : Keep base w w') {b o : Nat} {v : Value} (hb : base ≤ b) (hc : w.cell? ⟨b, o, none⟩ = some v) : w'.cell? ⟨b, o, none⟩ = some v :=
  (World.cell?_of_block (h.2 b hb (block_lt_of_cell hc))).trans hc
/-- A function of the program with a body. -/
def Body (f : FuncId) : Prop := ∀ (args : Array Value) (w : World), (callFunc f args).run Tryd.prog w = .ok (.enter f args) w
/-- The eastern function of a projection, in a world and all later ones. -/
def EastOk (base : Nat) (w : World) (E : Value) (K L : Int) : Prop := ∃ f c, E = .func (Fn.func f) #[] #[c] ∧ Body f ∧ ∀ w', Keep base w w' → ∀ x y : Int, Prj.vld x y → Calls Tryd.prog f #[.int .i64 x, .int .i64 y, c] w' fun e w'' => e = .returned (.int .i64 (Prj.eu K L x y)) ∧ Q w' w''
/-- The northern one: it holds one variable or two. -/
def NorthOk (base : Nat) (w : World) (N : Value) (K A : Int) : Prop :=
  (∃ f c, N = .func (Fn.func f) #[] #[c] ∧ Body f ∧ ∀ w', Keep base w w' → ∀ y : Int, -306000 ≤ y → y ≤ 306000 → Calls Tryd.prog f #[.int .i64 y, c] w' fun e w'' => e = .returned (.int .i64 (Prj.nv K A y)) ∧ Q w' w'') ∨
  (∃ f c d, N = .func (Fn.func f) #[] #[c, d] ∧ Body f ∧ ∀ w', Keep base w w' → ∀ y : Int, -306000 ≤ y → y ≤ 306000 → Calls Tryd.prog f #[.int .i64 y, c, d] w' fun e w'' => e = .returned (.int .i64 (Prj.nv K A y)) ∧ Q w' w'')
theorem EastOk.next {base : Nat} {w w' : World} {E : Value} {K L : Int} (h : EastOk base w E K L) (q : Keep base w w') : EastOk base w' E K L := by
  obtain ⟨f, c, e, b, H⟩ := h
  exact ⟨f, c, e, b, fun w'' q' => H w'' (q.trans q')⟩
theorem NorthOk.next {base : Nat} {w w' : World} {N : Value} {K A : Int} (h : NorthOk base w N K A) (q : Keep base w w') : NorthOk base w' N K A := by
  rcases h with ⟨f, c, e, b, H⟩ | ⟨f, c, d, e, b, H⟩
  · exact .inl ⟨f, c, e, b, fun w'' q' => H w'' (q.trans q')⟩
  · exact .inr ⟨f, c, d, e, b, fun w'' q' => H w'' (q.trans q')⟩
def RulePost (K L A : Int) (w : World) (e : Ending) (w' : World) : Prop := ∃ E N, e = .returned (.agg #[E, N]) ∧ EastOk w.heap.size w' E K L ∧ NorthOk w.heap.size w' N K A ∧ Q w w'

set_option maxRecDepth 100000 in
theorem east_plain (K L : Int) (hK : K ≠ 2) (hl0 : -648000 ≤ L) (hl1 : L ≤ 648000) (base B : Nat) (hB : base ≤ B) (w : World) (hc : w.cell? ⟨B, 1, none⟩ = some (.int .i64 L)) : EastOk base w (.func (Fn.func 71) #[] #[.pointer (some ⟨B, 0, none⟩)]) K L :=
  ⟨_, _, rfl, fun _ _ => rfl, fun w' q x y v => by
    have := rule1 x y L B w' v.1 v.2.1 hl0 hl1 (q.cell hB hc)
    unfold Prj.eu
    rw [if_neg hK]
    exact this⟩
set_option maxRecDepth 100000 in
theorem east_sine (L : Int) (hl0 : -648000 ≤ L) (hl1 : L ≤ 648000) (base B : Nat) (hB : base ≤ B) (w : World) (hc : w.cell? ⟨B, 1, none⟩ = some (.int .i64 L)) : EastOk base w (.func (Fn.func 74) #[] #[.pointer (some ⟨B, 0, none⟩)]) 2 L :=
  ⟨_, _, rfl, fun _ _ => rfl, fun w' q x y v => rule3 x y L B w' v.1 v.2.1 hl0 hl1 (by have := v.2.2.1; omega) (by have := v.2.2.2; omega) (q.cell hB hc)⟩
set_option maxRecDepth 100000 in
theorem north_plain (K A : Int) (h3 : K ≠ 3) (h4 : K ≠ 4) (ha0 : -306000 ≤ A) (ha1 : A ≤ 306000) (base B : Nat) (hB : base ≤ B) (w : World) (hc : w.cell? ⟨B, 2, none⟩ = some (.int .i64 A)) : NorthOk base w (.func (Fn.func 73) #[] #[.pointer (some ⟨B, 0, none⟩)]) K A :=
  .inl ⟨_, _, rfl, fun _ _ => rfl, fun w' q y h0 h1 => by
    have := rule2 y A B w' h0 h1 ha0 ha1 (q.cell hB hc)
    unfold Prj.nv
    rw [if_neg h3, if_neg h4]
    exact this⟩
set_option maxRecDepth 100000 in
theorem north_merc (A : Int) (ha0 : -306000 ≤ A) (ha1 : A ≤ 306000) (base B D : Nat) (hB : base ≤ B) (hD : base ≤ D) (w : World) (hd : w.cell? ⟨D, 0, none⟩ = some (.func (Fn.func 77) #[] #[])) (hc : w.cell? ⟨B, 0, none⟩ = some (.int .i64 (Prj.art A))) : NorthOk base w (.func (Fn.func 80) #[] #[.pointer (some ⟨D, 0, none⟩), .pointer (some ⟨B, 0, none⟩)]) 3 A :=
  .inr ⟨_, _, _, rfl, fun _ _ => rfl, fun w' q y h0 h1 => rule5 y _ B D w' h0 h1 (Prj.art_bd A ha0 ha1).1 (Prj.art_bd A ha0 ha1).2 (q.cell hD hd) (q.cell hB hc)⟩
set_option maxRecDepth 100000 in
theorem north_cyl (A : Int) (base B : Nat) (hB : base ≤ B) (w : World) (hc : w.cell? ⟨B, 0, none⟩ = some (.int .i64 (Ser.sin A))) : NorthOk base w (.func (Fn.func 81) #[] #[.pointer (some ⟨B, 0, none⟩)]) 4 A :=
  .inl ⟨_, _, rfl, fun _ _ => rfl, fun w' q y h0 h1 => rule6 y _ B w' h0 h1 (Ser.sin_in A).1 (Ser.sin_in A).2 (q.cell hB hc)⟩

set_option maxHeartbeats 4000000 in
theorem ruleOf1 (L A S : Int) (w : World) (v : Prj.vld L A) : Calls Tryd.prog 57 #[.agg #[.int .i64 1, .int .i64 L, .int .i64 A, .int .i64 S]] w (RulePost 1 L A w) := by
  have hmf : ∀ (fn : Fn) (first cap : Array Value) (w : World), (Instr.makeFunc fn first cap).run Tryd.prog w = .ok (.func fn first cap) w := fun _ _ _ _ => rfl
  have HV := Lib.hid v
  clear v
  go_enter Tryd.func57, Tryd.ntmps57
  go_wp2_with fail
  refine bodyPost_ret (v := .agg #[.func (Fn.func 71) #[] #[.pointer (some ⟨w.heap.size, 0, none⟩)], .func (Fn.func 73) #[] #[.pointer (some ⟨w.heap.size, 0, none⟩)]]) (by simp [results, Tryd.results57, go_sem]) rfl ⟨_, _, rfl, east_plain 1 L (by omega) HV.out.1 HV.out.2.1 _ _ (by omega) _ ?_, north_plain 1 A (by omega) (by omega) HV.out.2.2.1 HV.out.2.2.2 _ _ (by omega) _ ?_, ?_⟩
  · simp [go_sem]
  · simp [go_sem]
  · exact (((Q.refl w).alloc _).alloc _).alloc _

set_option maxHeartbeats 4000000 in
theorem ruleOf2 (L A S : Int) (w : World) (v : Prj.vld L A) : Calls Tryd.prog 57 #[.agg #[.int .i64 2, .int .i64 L, .int .i64 A, .int .i64 S]] w (RulePost 2 L A w) := by
  have hmf : ∀ (fn : Fn) (first cap : Array Value) (w : World), (Instr.makeFunc fn first cap).run Tryd.prog w = .ok (.func fn first cap) w := fun _ _ _ _ => rfl
  have HV := Lib.hid v
  clear v
  go_enter Tryd.func57, Tryd.ntmps57
  go_wp2_with fail
  refine bodyPost_ret (v := .agg #[.func (Fn.func 74) #[] #[.pointer (some ⟨w.heap.size, 0, none⟩)], .func (Fn.func 73) #[] #[.pointer (some ⟨w.heap.size, 0, none⟩)]]) (by simp [results, Tryd.results57, go_sem]) rfl ⟨_, _, rfl, east_sine L HV.out.1 HV.out.2.1 _ _ (by omega) _ ?_, north_plain 2 A (by omega) (by omega) HV.out.2.2.1 HV.out.2.2.2 _ _ (by omega) _ ?_, ?_⟩
  · simp [go_sem]
  · simp [go_sem]
  · exact (((Q.refl w).alloc _).alloc _).alloc _

set_option maxHeartbeats 4000000 in
theorem ruleOf4 (L A S : Int) (w : World) (v : Prj.vld L A) : Calls Tryd.prog 57 #[.agg #[.int .i64 4, .int .i64 L, .int .i64 A, .int .i64 S]] w (RulePost 4 L A w) := by
  have hmf : ∀ (fn : Fn) (first cap : Array Value) (w : World), (Instr.makeFunc fn first cap).run Tryd.prog w = .ok (.func fn first cap) w := fun _ _ _ _ => rfl
  have HV := Lib.hid v
  have HC := Lib.hid (fun W => sin_any A (by have := v.2.2.1; omega) (by have := v.2.2.2; omega) W)
  clear v
  go_enter Tryd.func57, Tryd.ntmps57
  go_wp2_with fail
  refine (HC.out _).mono ?_
  rintro e w1 ⟨rfl, q1⟩
  obtain ⟨hc, hf⟩ := bcell q1
  have hz : w.heap.size + 2 < w1.heap.size := by have := q1.sz; simp at this; omega
  have hz1 : w.heap.size + 1 < w1.heap.size := by omega
  have hz0 : w.heap.size < w1.heap.size := by omega
  go_wp2_with fail
  refine bodyPost_ret (v := .agg #[.func (Fn.func 71) #[] #[.pointer (some ⟨w.heap.size, 0, none⟩)], .func (Fn.func 81) #[] #[.pointer (some ⟨w1.heap.size, 0, none⟩)]]) (by simp [results, Tryd.results57, go_sem, hc, hz1]) rfl ⟨_, _, rfl, east_plain 4 L (by omega) HV.out.1 HV.out.2.1 _ _ (by omega) _ ?_, north_cyl A _ _ (by omega) _ ?_, ?_⟩
  · simp [go_sem, hc, hz0]
  · simp [go_sem]
  · refine Q.alloc ?_ _
    repeat (refine Q.setCell ?_ (by simp; try omega) _)
    exact ((q1.behind _).behind _).behind _

set_option maxHeartbeats 4000000 in
theorem ruleOf3 (L A S : Int) (w : World) (v : Prj.vld L A) : Calls Tryd.prog 57 #[.agg #[.int .i64 3, .int .i64 L, .int .i64 A, .int .i64 S]] w (RulePost 3 L A w) := by
  have hmf : ∀ (fn : Fn) (first cap : Array Value) (w : World), (Instr.makeFunc fn first cap).run Tryd.prog w = .ok (.func fn first cap) w := fun _ _ _ _ => rfl
  have HV := Lib.hid v
  have HC := Lib.hid (fun W => rule4 A W v.2.2.1 v.2.2.2)
  clear v
  go_enter Tryd.func57, Tryd.ntmps57
  go_wp2_with fail
  refine (HC.out _).mono ?_
  rintro e w1 ⟨rfl, q1⟩
  obtain ⟨hc, hf⟩ := bcell q1
  have hz3 : w.heap.size + 3 < w1.heap.size := by have := q1.sz; simp at this; omega
  have hz : w.heap.size + 2 < w1.heap.size := by omega
  have hz1 : w.heap.size + 1 < w1.heap.size := by omega
  have hz0 : w.heap.size < w1.heap.size := by omega
  go_wp2_with fail
  refine bodyPost_ret (v := .agg #[.func (Fn.func 71) #[] #[.pointer (some ⟨w.heap.size, 0, none⟩)], .func (Fn.func 80) #[] #[.pointer (some ⟨w.heap.size + 3, 0, none⟩), .pointer (some ⟨w1.heap.size, 0, none⟩)]]) (by simp [results, Tryd.results57, go_sem, hc, hz1]) rfl ⟨_, _, rfl, east_plain 3 L (by omega) HV.out.1 HV.out.2.1 _ _ (by omega) _ ?_, north_merc A HV.out.2.2.1 HV.out.2.2.2 _ _ _ (by omega) (by omega) _ ?_ ?_, ?_⟩
  · simp [go_sem, hc, hz0]
  · simp [go_sem, hc, hz3]
  · simp [go_sem]
  · refine Q.alloc ?_ _
    repeat (refine Q.setCell ?_ (by simp; try omega) _)
    exact (((q1.behind _).behind _).behind _).behind _

theorem ruleOf_any (K L A S : Int) (w : World) (h : Prj.Ok K L A S) : Calls Tryd.prog 57 #[.agg #[.int .i64 K, .int .i64 L, .int .i64 A, .int .i64 S]] w (RulePost K L A w) := by
  obtain ⟨k0, k1, v, _, _⟩ := h
  obtain rfl | rfl | rfl | rfl : K = 1 ∨ K = 2 ∨ K = 3 ∨ K = 4 := by omega
  · exact ruleOf1 L A S w v
  · exact ruleOf2 L A S w v
  · exact ruleOf3 L A S w v
  · exact ruleOf4 L A S w v
end Go.Proofs.YtcaabaijkidmgaaDoor


/- Contracts of project.to and To. -/
namespace Go.Proofs.YtcaabaijkidmgaaDoor
open Go.RowKit
set_option linter.unusedVariables false

theorem to_next {K L A S x y : Int} {E N : Value} {w u v : World} (h : (u.cell? ⟨w.heap.size, 0, none⟩ = some (.int .i64 K) ∧ u.cell? ⟨w.heap.size, 1, none⟩ = some (.int .i64 L) ∧ u.cell? ⟨w.heap.size, 2, none⟩ = some (.int .i64 A) ∧ u.cell? ⟨w.heap.size, 3, none⟩ = some (.int .i64 S) ∧ u.cell? ⟨w.heap.size + 1, 0, none⟩ = some (E) ∧ u.cell? ⟨w.heap.size + 1, 1, none⟩ = some (N) ∧ u.cell? ⟨w.heap.size + 2, 0, none⟩ = some (.int .i64 x) ∧ u.cell? ⟨w.heap.size + 2, 1, none⟩ = some (.int .i64 y) ∧ Q w u)) (q : Q u v) : (v.cell? ⟨w.heap.size, 0, none⟩ = some (.int .i64 K) ∧ v.cell? ⟨w.heap.size, 1, none⟩ = some (.int .i64 L) ∧ v.cell? ⟨w.heap.size, 2, none⟩ = some (.int .i64 A) ∧ v.cell? ⟨w.heap.size, 3, none⟩ = some (.int .i64 S) ∧ v.cell? ⟨w.heap.size + 1, 0, none⟩ = some (E) ∧ v.cell? ⟨w.heap.size + 1, 1, none⟩ = some (N) ∧ v.cell? ⟨w.heap.size + 2, 0, none⟩ = some (.int .i64 x) ∧ v.cell? ⟨w.heap.size + 2, 1, none⟩ = some (.int .i64 y) ∧ Q w v) := by
  obtain ⟨h0, h1, h2, h3, h4, h5, h6, h7, h9⟩ := h
  exact ⟨(q.cell (block_lt_of_cell h0)).trans h0, (q.cell (block_lt_of_cell h1)).trans h1, (q.cell (block_lt_of_cell h2)).trans h2, (q.cell (block_lt_of_cell h3)).trans h3, (q.cell (block_lt_of_cell h4)).trans h4, (q.cell (block_lt_of_cell h5)).trans h5, (q.cell (block_lt_of_cell h6)).trans h6, (q.cell (block_lt_of_cell h7)).trans h7, h9.trans q⟩
theorem set_other {v : World} {b o b' o' : Nat} {x u : Value} (h : v.cell? ⟨b, o, none⟩ = some x) (hb : b ≠ b') : (v.setCell ⟨b', o', none⟩ u).cell? ⟨b, o, none⟩ = some x :=
  (World.cell?_setCell_other v ⟨b', o', none⟩ ⟨b, o, none⟩ u (fun e => hb (by injection e with e1; exact e1.symm))).trans h
theorem to_set {K L A S x y : Int} {E N : Value} {w v : World} {u : Value} {i : Nat} (h : (v.cell? ⟨w.heap.size, 0, none⟩ = some (.int .i64 K) ∧ v.cell? ⟨w.heap.size, 1, none⟩ = some (.int .i64 L) ∧ v.cell? ⟨w.heap.size, 2, none⟩ = some (.int .i64 A) ∧ v.cell? ⟨w.heap.size, 3, none⟩ = some (.int .i64 S) ∧ v.cell? ⟨w.heap.size + 1, 0, none⟩ = some (E) ∧ v.cell? ⟨w.heap.size + 1, 1, none⟩ = some (N) ∧ v.cell? ⟨w.heap.size + 2, 0, none⟩ = some (.int .i64 x) ∧ v.cell? ⟨w.heap.size + 2, 1, none⟩ = some (.int .i64 y) ∧ Q w v)) : ((v.setCell ⟨w.heap.size + 3, i, none⟩ u).cell? ⟨w.heap.size, 0, none⟩ = some (.int .i64 K) ∧ (v.setCell ⟨w.heap.size + 3, i, none⟩ u).cell? ⟨w.heap.size, 1, none⟩ = some (.int .i64 L) ∧ (v.setCell ⟨w.heap.size + 3, i, none⟩ u).cell? ⟨w.heap.size, 2, none⟩ = some (.int .i64 A) ∧ (v.setCell ⟨w.heap.size + 3, i, none⟩ u).cell? ⟨w.heap.size, 3, none⟩ = some (.int .i64 S) ∧ (v.setCell ⟨w.heap.size + 3, i, none⟩ u).cell? ⟨w.heap.size + 1, 0, none⟩ = some (E) ∧ (v.setCell ⟨w.heap.size + 3, i, none⟩ u).cell? ⟨w.heap.size + 1, 1, none⟩ = some (N) ∧ (v.setCell ⟨w.heap.size + 3, i, none⟩ u).cell? ⟨w.heap.size + 2, 0, none⟩ = some (.int .i64 x) ∧ (v.setCell ⟨w.heap.size + 3, i, none⟩ u).cell? ⟨w.heap.size + 2, 1, none⟩ = some (.int .i64 y) ∧ Q w (v.setCell ⟨w.heap.size + 3, i, none⟩ u)) := by
  obtain ⟨h0, h1, h2, h3, h4, h5, h6, h7, h9⟩ := h
  exact ⟨set_other h0 (by omega), set_other h1 (by omega), set_other h2 (by omega), set_other h3 (by omega), set_other h4 (by omega), set_other h5 (by omega), set_other h6 (by omega), set_other h7 (by omega), h9.setCell (by simp) _⟩
def ToS (K L A S x y : Int) (E N : Value) (w v : World) : Prop := (v.cell? ⟨w.heap.size, 0, none⟩ = some (.int .i64 K) ∧ v.cell? ⟨w.heap.size, 1, none⟩ = some (.int .i64 L) ∧ v.cell? ⟨w.heap.size, 2, none⟩ = some (.int .i64 A) ∧ v.cell? ⟨w.heap.size, 3, none⟩ = some (.int .i64 S) ∧ v.cell? ⟨w.heap.size + 1, 0, none⟩ = some (E) ∧ v.cell? ⟨w.heap.size + 1, 1, none⟩ = some (N) ∧ v.cell? ⟨w.heap.size + 2, 0, none⟩ = some (.int .i64 x) ∧ v.cell? ⟨w.heap.size + 2, 1, none⟩ = some (.int .i64 y) ∧ Q w v)
theorem to_qw {K L A S x y : Int} {E N : Value} {w v : World} (h : (v.cell? ⟨w.heap.size, 0, none⟩ = some (.int .i64 K) ∧ v.cell? ⟨w.heap.size, 1, none⟩ = some (.int .i64 L) ∧ v.cell? ⟨w.heap.size, 2, none⟩ = some (.int .i64 A) ∧ v.cell? ⟨w.heap.size, 3, none⟩ = some (.int .i64 S) ∧ v.cell? ⟨w.heap.size + 1, 0, none⟩ = some (E) ∧ v.cell? ⟨w.heap.size + 1, 1, none⟩ = some (N) ∧ v.cell? ⟨w.heap.size + 2, 0, none⟩ = some (.int .i64 x) ∧ v.cell? ⟨w.heap.size + 2, 1, none⟩ = some (.int .i64 y) ∧ Q w v)) : Q w v := h.2.2.2.2.2.2.2.2
theorem t_next {u v : World} {b o : Nat} {x : Value} (q : Q u v) (h : u.cell? ⟨b, o, none⟩ = some x) : v.cell? ⟨b, o, none⟩ = some x := (q.cell (block_lt_of_cell h)).trans h
theorem b_next {u v : World} {b : Nat} {x : Obj} (q : Q u v) (h : u.heap[b]? = some x) : v.heap[b]? = some x := (q.block (Array.getElem?_eq_some_iff.1 h).1).trans h
theorem f_next {u v : World} {b o : Nat} {x : Value} (q : Q u v) (h : u.cell? ⟨b, o, none⟩ = some x) (f : u.frozen? ⟨b, o, none⟩ = false) : v.frozen? ⟨b, o, none⟩ = false := (q.frozen (block_lt_of_cell h)).trans f

set_option maxHeartbeats 4000000 in
theorem to_bad (K L A S x y : Int) (E N : Value) (w : World) (h : ¬ Prj.vld x y) :
    Calls Tryd.prog 58 #[.agg #[.int .i64 K, .int .i64 L, .int .i64 A, .int .i64 S], .agg #[E, N], .agg #[.int .i64 x, .int .i64 y]] w fun e w' => e = .returned (.tuple #[.agg #[.int .i64 0, .int .i64 0], .int .i64 2]) ∧ Q w w' := by
  have HV := Lib.hid (fun W => svalid_no x y W h)
  clear h
  go_enter Tryd.func58, Tryd.ntmps58
  go_wp2_with fail
  refine (HV.out _).mono ?_
  rintro e w1 ⟨rfl, q1⟩
  have hb : w1.heap[w.heap.size + 3]? = some (.cells #[.int .i64 0, .int .i64 0] 23 (0, 0)) := (q1.block (by simp)).trans (by have := heap_alloc_new (((w.alloc (.cells #[.int .i64 K, .int .i64 L, .int .i64 A, .int .i64 S] 45)).alloc (.cells #[E, N] 87)).alloc (.cells #[.int .i64 x, .int .i64 y] 23)) (.cells #[.int .i64 0, .int .i64 0] 23); simpa using this)
  have m0 : w1.cell? ⟨w.heap.size + 3, 0, none⟩ = some (.int .i64 0) := by rw [cell_of_row w1 _ 0 _ _ _ hb]; rfl
  have m1 : w1.cell? ⟨w.heap.size + 3, 1, none⟩ = some (.int .i64 0) := by rw [cell_of_row w1 _ 1 _ _ _ hb]; rfl
  have f0 := frozen_of_row w1 _ 0 _ _ hb
  have f1 := frozen_of_row w1 _ 1 _ _ hb
  have HB := Lib.hid hb
  clear hb
  go_wp2_with fail
  refine bodyPost_ret (results_cell_tmp rfl _ _ _ _ _ _ _ rfl (heap_setCell_same _ _ _ _ _ _ (heap_setCell_same _ _ _ _ _ _ HB.out)) Tryd.underlying23 rfl (by kernel_rfl)) rfl ⟨rfl, ?_⟩
  repeat (refine Q.setCell ?_ (by simp; try omega) _)
  exact (((q1.behind _).behind _).behind _).behind _

set_option maxRecDepth 100000 in
set_option maxHeartbeats 16000000 in
theorem to_ok1 (K L A S x y u v su sv : Int) (ef nf : FuncId) (ec c1 : Value) (w : World) (be : ∀ (args : Array Value) (w : World), (callFunc ef args).run Tryd.prog w = .ok (.enter ef args) w) (bn : ∀ (args : Array Value) (w : World), (callFunc nf args).run Tryd.prog w = .ok (.enter nf args) w) (hv : Prj.vld x y) (hp : Prj.pt su sv)
    (HE : Hid (∀ w', Q w w' → Calls Tryd.prog ef #[.int .i64 x, .int .i64 y, ec] w' fun e w'' => e = .returned (.int .i64 u) ∧ Q w' w''))
    (HN : Hid (∀ w', Q w w' → Calls Tryd.prog nf #[.int .i64 y, c1] w' fun e w'' => e = .returned (.int .i64 v) ∧ Q w' w''))
    (HSu : Hid (∀ w, Calls Tryd.prog 82 #[.agg #[.int .i64 K, .int .i64 L, .int .i64 A, .int .i64 S], .int .i64 u] w fun e w' => e = .returned (.int .i64 su) ∧ Q w w'))
    (HSv : Hid (∀ w, Calls Tryd.prog 82 #[.agg #[.int .i64 K, .int .i64 L, .int .i64 A, .int .i64 S], .int .i64 v] w fun e w' => e = .returned (.int .i64 sv) ∧ Q w w')) :
    Calls Tryd.prog 58 #[.agg #[.int .i64 K, .int .i64 L, .int .i64 A, .int .i64 S], .agg #[.func (Fn.func ef) #[] #[ec], .func (Fn.func nf) #[] #[c1]], .agg #[.int .i64 x, .int .i64 y]] w fun e w' => e = .returned (.tuple #[.agg #[.int .i64 su, .int .i64 sv], .int .i64 0]) ∧ Q w w' := by
  have HV := Lib.hid (fun W => svalid_yes x y W hv)
  have HP := Lib.hid (fun W => pvalid_yes su sv W hp)
  clear hv hp
  go_enter Tryd.func58, Tryd.ntmps58
  go_wp2_with fail
  refine (HV.out _).mono ?_
  rintro e w1 ⟨rfl, q1⟩
  have hb : w1.heap[w.heap.size + 3]? = some (.cells #[.int .i64 0, .int .i64 0] 23 (0, 0)) := (q1.block (by simp)).trans (by have := heap_alloc_new (((w.alloc (.cells #[.int .i64 K, .int .i64 L, .int .i64 A, .int .i64 S] 45)).alloc (.cells #[.func (Fn.func ef) #[] #[ec], .func (Fn.func nf) #[] #[c1]] 87)).alloc (.cells #[.int .i64 x, .int .i64 y] 23)) (.cells #[.int .i64 0, .int .i64 0] 23); simpa using this)
  have t0 : w1.drew.cell? ⟨w.heap.size + 3, 0, none⟩ = some (.int .i64 0) := by show w1.cell? _ = _; rw [cell_of_row w1 _ 0 _ _ _ hb]; rfl
  have t1 : w1.drew.cell? ⟨w.heap.size + 3, 1, none⟩ = some (.int .i64 0) := by show w1.cell? _ = _; rw [cell_of_row w1 _ 1 _ _ _ hb]; rfl
  have t2 : w1.drew.frozen? ⟨w.heap.size + 3, 0, none⟩ = false := frozen_of_row w1 _ 0 _ _ hb
  have t3 : w1.drew.frozen? ⟨w.heap.size + 3, 1, none⟩ = false := frozen_of_row w1 _ 1 _ _ hb
  have HK : Hid (ToS K L A S x y (.func (Fn.func ef) #[] #[ec]) (.func (Fn.func nf) #[] #[c1]) w w1) := by
    obtain ⟨hc, _⟩ := bcell q1
    refine ⟨?_, ?_, ?_, ?_, ?_, ?_, ?_, ?_, (((q1.behind _).behind _).behind _).behind _⟩
    all_goals (rw [hc _ _ (by simp; try omega)]; simp [go_sem])
  have t4 : w1.drew.heap[w.heap.size + 3]? = some (.cells #[.int .i64 0, .int .i64 0] 23 (0, 0)) := hb
  clear hb
  go_wp2_with fail
  go_region_held3 (fun v => (v.cell? ⟨w.heap.size, 0, none⟩ = some (.int .i64 K) ∧ v.cell? ⟨w.heap.size, 1, none⟩ = some (.int .i64 L) ∧ v.cell? ⟨w.heap.size, 2, none⟩ = some (.int .i64 A) ∧ v.cell? ⟨w.heap.size, 3, none⟩ = some (.int .i64 S) ∧ v.cell? ⟨w.heap.size + 1, 0, none⟩ = some (.func (Fn.func ef) #[] #[ec]) ∧ v.cell? ⟨w.heap.size + 1, 1, none⟩ = some (.func (Fn.func nf) #[] #[c1]) ∧ v.cell? ⟨w.heap.size + 2, 0, none⟩ = some (.int .i64 x) ∧ v.cell? ⟨w.heap.size + 2, 1, none⟩ = some (.int .i64 y) ∧ Q w v)) ((first | (exact to_next HK.out ((Q.refl _).drew)) | (refine to_next ?_ (by assumption); assumption) | (refine to_set (to_set ?_); assumption)))
    (first
      | (go_at_call 82; (first | (with_reducible refine (HSu.out _).mono ?_) | (with_reducible refine (HSv.out _).mono ?_)); (rintro e w' ⟨rfl, q⟩); have t0' := t_next q (b := w.heap.size + 3) (o := 0) (x := .int .i64 0) (by assumption); have t1' := t_next q (b := w.heap.size + 3) (o := 1) (x := .int .i64 0) (by assumption); have t2' := f_next q (b := w.heap.size + 3) (o := 0) (x := .int .i64 0) (by assumption) (by assumption); have t3' := f_next q (b := w.heap.size + 3) (o := 1) (x := .int .i64 0) (by assumption) (by assumption); have t4' := b_next q (b := w.heap.size + 3) (x := .cells #[.int .i64 0, .int .i64 0] 23 (0, 0)) (by assumption))
      | ((first | (with_reducible refine (HE.out _ ?_).mono ?_) | (with_reducible refine (HN.out _ ?_).mono ?_)); (simp only [*]); (rintro e w' ⟨rfl, q⟩); have t0' := t_next q (b := w.heap.size + 3) (o := 0) (x := .int .i64 0) (by assumption); have t1' := t_next q (b := w.heap.size + 3) (o := 1) (x := .int .i64 0) (by assumption); have t2' := f_next q (b := w.heap.size + 3) (o := 0) (x := .int .i64 0) (by assumption) (by assumption); have t3' := f_next q (b := w.heap.size + 3) (o := 1) (x := .int .i64 0) (by assumption) (by assumption); have t4' := b_next q (b := w.heap.size + 3) (x := .cells #[.int .i64 0, .int .i64 0] 23 (0, 0)) (by assumption)))
  all_goals
    have qw := to_qw ‹_›
    have hW := heap_setCell_same _ _ 1 _ _ (.int .i64 sv) (heap_setCell_same _ _ 0 _ _ (.int .i64 su) t4')
    have HW := Lib.hid hW
    clear hW
    go_wp2_with fail
    refine (HP.out _).mono ?_
    rintro e w9 ⟨rfl, q9⟩
    have hb9 := b_next q9 HW.out
    have m0 : w9.cell? ⟨w.heap.size + 3, 0, none⟩ = some (.int .i64 su) := by rw [cell_of_row w9 _ 0 _ _ _ hb9]; rfl
    have m1 : w9.cell? ⟨w.heap.size + 3, 1, none⟩ = some (.int .i64 sv) := by rw [cell_of_row w9 _ 1 _ _ _ hb9]; rfl
    have f0 := frozen_of_row w9 _ 0 _ _ hb9
    have f1 := frozen_of_row w9 _ 1 _ _ hb9
    have HB := Lib.hid hb9
    clear hb9
    go_wp2_with fail
    refine bodyPost_ret (results_cell_tmp rfl _ _ _ _ _ _ _ rfl (heap_setCell_same _ _ _ _ _ _ (heap_setCell_same _ _ _ _ _ _ HB.out)) Tryd.underlying23 rfl (by kernel_rfl)) rfl ⟨rfl, ?_⟩
    repeat (refine Q.setCell ?_ (by simp; try omega) _)
    exact qw.trans q9

set_option maxRecDepth 100000 in
set_option maxHeartbeats 16000000 in
theorem to_out1 (K L A S x y u v su sv : Int) (ef nf : FuncId) (ec c1 : Value) (w : World) (be : ∀ (args : Array Value) (w : World), (callFunc ef args).run Tryd.prog w = .ok (.enter ef args) w) (bn : ∀ (args : Array Value) (w : World), (callFunc nf args).run Tryd.prog w = .ok (.enter nf args) w) (hv : Prj.vld x y) (hp : ¬ Prj.pt su sv)
    (HE : Hid (∀ w', Q w w' → Calls Tryd.prog ef #[.int .i64 x, .int .i64 y, ec] w' fun e w'' => e = .returned (.int .i64 u) ∧ Q w' w''))
    (HN : Hid (∀ w', Q w w' → Calls Tryd.prog nf #[.int .i64 y, c1] w' fun e w'' => e = .returned (.int .i64 v) ∧ Q w' w''))
    (HSu : Hid (∀ w, Calls Tryd.prog 82 #[.agg #[.int .i64 K, .int .i64 L, .int .i64 A, .int .i64 S], .int .i64 u] w fun e w' => e = .returned (.int .i64 su) ∧ Q w w'))
    (HSv : Hid (∀ w, Calls Tryd.prog 82 #[.agg #[.int .i64 K, .int .i64 L, .int .i64 A, .int .i64 S], .int .i64 v] w fun e w' => e = .returned (.int .i64 sv) ∧ Q w w')) :
    Calls Tryd.prog 58 #[.agg #[.int .i64 K, .int .i64 L, .int .i64 A, .int .i64 S], .agg #[.func (Fn.func ef) #[] #[ec], .func (Fn.func nf) #[] #[c1]], .agg #[.int .i64 x, .int .i64 y]] w fun e w' => e = .returned (.tuple #[.agg #[.int .i64 0, .int .i64 0], .int .i64 2]) ∧ Q w w' := by
  have HV := Lib.hid (fun W => svalid_yes x y W hv)
  have HP := Lib.hid (fun W => pvalid_no su sv W hp)
  clear hv hp
  go_enter Tryd.func58, Tryd.ntmps58
  go_wp2_with fail
  refine (HV.out _).mono ?_
  rintro e w1 ⟨rfl, q1⟩
  have hb : w1.heap[w.heap.size + 3]? = some (.cells #[.int .i64 0, .int .i64 0] 23 (0, 0)) := (q1.block (by simp)).trans (by have := heap_alloc_new (((w.alloc (.cells #[.int .i64 K, .int .i64 L, .int .i64 A, .int .i64 S] 45)).alloc (.cells #[.func (Fn.func ef) #[] #[ec], .func (Fn.func nf) #[] #[c1]] 87)).alloc (.cells #[.int .i64 x, .int .i64 y] 23)) (.cells #[.int .i64 0, .int .i64 0] 23); simpa using this)
  have t0 : w1.drew.cell? ⟨w.heap.size + 3, 0, none⟩ = some (.int .i64 0) := by show w1.cell? _ = _; rw [cell_of_row w1 _ 0 _ _ _ hb]; rfl
  have t1 : w1.drew.cell? ⟨w.heap.size + 3, 1, none⟩ = some (.int .i64 0) := by show w1.cell? _ = _; rw [cell_of_row w1 _ 1 _ _ _ hb]; rfl
  have t2 : w1.drew.frozen? ⟨w.heap.size + 3, 0, none⟩ = false := frozen_of_row w1 _ 0 _ _ hb
  have t3 : w1.drew.frozen? ⟨w.heap.size + 3, 1, none⟩ = false := frozen_of_row w1 _ 1 _ _ hb
  have HK : Hid (ToS K L A S x y (.func (Fn.func ef) #[] #[ec]) (.func (Fn.func nf) #[] #[c1]) w w1) := by
    obtain ⟨hc, _⟩ := bcell q1
    refine ⟨?_, ?_, ?_, ?_, ?_, ?_, ?_, ?_, (((q1.behind _).behind _).behind _).behind _⟩
    all_goals (rw [hc _ _ (by simp; try omega)]; simp [go_sem])
  have t4 : w1.drew.heap[w.heap.size + 3]? = some (.cells #[.int .i64 0, .int .i64 0] 23 (0, 0)) := hb
  clear hb
  go_wp2_with fail
  go_region_held3 (fun v => (v.cell? ⟨w.heap.size, 0, none⟩ = some (.int .i64 K) ∧ v.cell? ⟨w.heap.size, 1, none⟩ = some (.int .i64 L) ∧ v.cell? ⟨w.heap.size, 2, none⟩ = some (.int .i64 A) ∧ v.cell? ⟨w.heap.size, 3, none⟩ = some (.int .i64 S) ∧ v.cell? ⟨w.heap.size + 1, 0, none⟩ = some (.func (Fn.func ef) #[] #[ec]) ∧ v.cell? ⟨w.heap.size + 1, 1, none⟩ = some (.func (Fn.func nf) #[] #[c1]) ∧ v.cell? ⟨w.heap.size + 2, 0, none⟩ = some (.int .i64 x) ∧ v.cell? ⟨w.heap.size + 2, 1, none⟩ = some (.int .i64 y) ∧ Q w v)) ((first | (exact to_next HK.out ((Q.refl _).drew)) | (refine to_next ?_ (by assumption); assumption) | (refine to_set (to_set ?_); assumption)))
    (first
      | (go_at_call 82; (first | (with_reducible refine (HSu.out _).mono ?_) | (with_reducible refine (HSv.out _).mono ?_)); (rintro e w' ⟨rfl, q⟩); have t0' := t_next q (b := w.heap.size + 3) (o := 0) (x := .int .i64 0) (by assumption); have t1' := t_next q (b := w.heap.size + 3) (o := 1) (x := .int .i64 0) (by assumption); have t2' := f_next q (b := w.heap.size + 3) (o := 0) (x := .int .i64 0) (by assumption) (by assumption); have t3' := f_next q (b := w.heap.size + 3) (o := 1) (x := .int .i64 0) (by assumption) (by assumption); have t4' := b_next q (b := w.heap.size + 3) (x := .cells #[.int .i64 0, .int .i64 0] 23 (0, 0)) (by assumption))
      | ((first | (with_reducible refine (HE.out _ ?_).mono ?_) | (with_reducible refine (HN.out _ ?_).mono ?_)); (simp only [*]); (rintro e w' ⟨rfl, q⟩); have t0' := t_next q (b := w.heap.size + 3) (o := 0) (x := .int .i64 0) (by assumption); have t1' := t_next q (b := w.heap.size + 3) (o := 1) (x := .int .i64 0) (by assumption); have t2' := f_next q (b := w.heap.size + 3) (o := 0) (x := .int .i64 0) (by assumption) (by assumption); have t3' := f_next q (b := w.heap.size + 3) (o := 1) (x := .int .i64 0) (by assumption) (by assumption); have t4' := b_next q (b := w.heap.size + 3) (x := .cells #[.int .i64 0, .int .i64 0] 23 (0, 0)) (by assumption)))
  all_goals
    have qw := to_qw ‹_›
    have hW := heap_setCell_same _ _ 1 _ _ (.int .i64 sv) (heap_setCell_same _ _ 0 _ _ (.int .i64 su) t4')
    have HW := Lib.hid hW
    clear hW
    go_wp2_with fail
    refine (HP.out _).mono ?_
    rintro e w9 ⟨rfl, q9⟩
    have hb9 := b_next q9 HW.out
    have m0 : w9.cell? ⟨w.heap.size + 3, 0, none⟩ = some (.int .i64 su) := by rw [cell_of_row w9 _ 0 _ _ _ hb9]; rfl
    have m1 : w9.cell? ⟨w.heap.size + 3, 1, none⟩ = some (.int .i64 sv) := by rw [cell_of_row w9 _ 1 _ _ _ hb9]; rfl
    have f0 := frozen_of_row w9 _ 0 _ _ hb9
    have f1 := frozen_of_row w9 _ 1 _ _ hb9
    have HB := Lib.hid hb9
    clear hb9
    go_wp2_with fail
    refine bodyPost_ret (results_cell_tmp rfl _ _ _ _ _ _ _ rfl (heap_setCell_same _ _ _ _ _ _ (heap_setCell_same _ _ _ _ _ _ HB.out)) Tryd.underlying23 rfl (by kernel_rfl)) rfl ⟨rfl, ?_⟩
    repeat (refine Q.setCell ?_ (by simp; try omega) _)
    exact qw.trans q9

set_option maxRecDepth 100000 in
set_option maxHeartbeats 16000000 in
theorem to_ok2 (K L A S x y u v su sv : Int) (ef nf : FuncId) (ec c1 c2 : Value) (w : World) (be : ∀ (args : Array Value) (w : World), (callFunc ef args).run Tryd.prog w = .ok (.enter ef args) w) (bn : ∀ (args : Array Value) (w : World), (callFunc nf args).run Tryd.prog w = .ok (.enter nf args) w) (hv : Prj.vld x y) (hp : Prj.pt su sv)
    (HE : Hid (∀ w', Q w w' → Calls Tryd.prog ef #[.int .i64 x, .int .i64 y, ec] w' fun e w'' => e = .returned (.int .i64 u) ∧ Q w' w''))
    (HN : Hid (∀ w', Q w w' → Calls Tryd.prog nf #[.int .i64 y, c1, c2] w' fun e w'' => e = .returned (.int .i64 v) ∧ Q w' w''))
    (HSu : Hid (∀ w, Calls Tryd.prog 82 #[.agg #[.int .i64 K, .int .i64 L, .int .i64 A, .int .i64 S], .int .i64 u] w fun e w' => e = .returned (.int .i64 su) ∧ Q w w'))
    (HSv : Hid (∀ w, Calls Tryd.prog 82 #[.agg #[.int .i64 K, .int .i64 L, .int .i64 A, .int .i64 S], .int .i64 v] w fun e w' => e = .returned (.int .i64 sv) ∧ Q w w')) :
    Calls Tryd.prog 58 #[.agg #[.int .i64 K, .int .i64 L, .int .i64 A, .int .i64 S], .agg #[.func (Fn.func ef) #[] #[ec], .func (Fn.func nf) #[] #[c1, c2]], .agg #[.int .i64 x, .int .i64 y]] w fun e w' => e = .returned (.tuple #[.agg #[.int .i64 su, .int .i64 sv], .int .i64 0]) ∧ Q w w' := by
  have HV := Lib.hid (fun W => svalid_yes x y W hv)
  have HP := Lib.hid (fun W => pvalid_yes su sv W hp)
  clear hv hp
  go_enter Tryd.func58, Tryd.ntmps58
  go_wp2_with fail
  refine (HV.out _).mono ?_
  rintro e w1 ⟨rfl, q1⟩
  have hb : w1.heap[w.heap.size + 3]? = some (.cells #[.int .i64 0, .int .i64 0] 23 (0, 0)) := (q1.block (by simp)).trans (by have := heap_alloc_new (((w.alloc (.cells #[.int .i64 K, .int .i64 L, .int .i64 A, .int .i64 S] 45)).alloc (.cells #[.func (Fn.func ef) #[] #[ec], .func (Fn.func nf) #[] #[c1, c2]] 87)).alloc (.cells #[.int .i64 x, .int .i64 y] 23)) (.cells #[.int .i64 0, .int .i64 0] 23); simpa using this)
  have t0 : w1.drew.cell? ⟨w.heap.size + 3, 0, none⟩ = some (.int .i64 0) := by show w1.cell? _ = _; rw [cell_of_row w1 _ 0 _ _ _ hb]; rfl
  have t1 : w1.drew.cell? ⟨w.heap.size + 3, 1, none⟩ = some (.int .i64 0) := by show w1.cell? _ = _; rw [cell_of_row w1 _ 1 _ _ _ hb]; rfl
  have t2 : w1.drew.frozen? ⟨w.heap.size + 3, 0, none⟩ = false := frozen_of_row w1 _ 0 _ _ hb
  have t3 : w1.drew.frozen? ⟨w.heap.size + 3, 1, none⟩ = false := frozen_of_row w1 _ 1 _ _ hb
  have HK : Hid (ToS K L A S x y (.func (Fn.func ef) #[] #[ec]) (.func (Fn.func nf) #[] #[c1, c2]) w w1) := by
    obtain ⟨hc, _⟩ := bcell q1
    refine ⟨?_, ?_, ?_, ?_, ?_, ?_, ?_, ?_, (((q1.behind _).behind _).behind _).behind _⟩
    all_goals (rw [hc _ _ (by simp; try omega)]; simp [go_sem])
  have t4 : w1.drew.heap[w.heap.size + 3]? = some (.cells #[.int .i64 0, .int .i64 0] 23 (0, 0)) := hb
  clear hb
  go_wp2_with fail
  go_region_held3 (fun v => (v.cell? ⟨w.heap.size, 0, none⟩ = some (.int .i64 K) ∧ v.cell? ⟨w.heap.size, 1, none⟩ = some (.int .i64 L) ∧ v.cell? ⟨w.heap.size, 2, none⟩ = some (.int .i64 A) ∧ v.cell? ⟨w.heap.size, 3, none⟩ = some (.int .i64 S) ∧ v.cell? ⟨w.heap.size + 1, 0, none⟩ = some (.func (Fn.func ef) #[] #[ec]) ∧ v.cell? ⟨w.heap.size + 1, 1, none⟩ = some (.func (Fn.func nf) #[] #[c1, c2]) ∧ v.cell? ⟨w.heap.size + 2, 0, none⟩ = some (.int .i64 x) ∧ v.cell? ⟨w.heap.size + 2, 1, none⟩ = some (.int .i64 y) ∧ Q w v)) ((first | (exact to_next HK.out ((Q.refl _).drew)) | (refine to_next ?_ (by assumption); assumption) | (refine to_set (to_set ?_); assumption)))
    (first
      | (go_at_call 82; (first | (with_reducible refine (HSu.out _).mono ?_) | (with_reducible refine (HSv.out _).mono ?_)); (rintro e w' ⟨rfl, q⟩); have t0' := t_next q (b := w.heap.size + 3) (o := 0) (x := .int .i64 0) (by assumption); have t1' := t_next q (b := w.heap.size + 3) (o := 1) (x := .int .i64 0) (by assumption); have t2' := f_next q (b := w.heap.size + 3) (o := 0) (x := .int .i64 0) (by assumption) (by assumption); have t3' := f_next q (b := w.heap.size + 3) (o := 1) (x := .int .i64 0) (by assumption) (by assumption); have t4' := b_next q (b := w.heap.size + 3) (x := .cells #[.int .i64 0, .int .i64 0] 23 (0, 0)) (by assumption))
      | ((first | (with_reducible refine (HE.out _ ?_).mono ?_) | (with_reducible refine (HN.out _ ?_).mono ?_)); (simp only [*]); (rintro e w' ⟨rfl, q⟩); have t0' := t_next q (b := w.heap.size + 3) (o := 0) (x := .int .i64 0) (by assumption); have t1' := t_next q (b := w.heap.size + 3) (o := 1) (x := .int .i64 0) (by assumption); have t2' := f_next q (b := w.heap.size + 3) (o := 0) (x := .int .i64 0) (by assumption) (by assumption); have t3' := f_next q (b := w.heap.size + 3) (o := 1) (x := .int .i64 0) (by assumption) (by assumption); have t4' := b_next q (b := w.heap.size + 3) (x := .cells #[.int .i64 0, .int .i64 0] 23 (0, 0)) (by assumption)))
  all_goals
    have qw := to_qw ‹_›
    have hW := heap_setCell_same _ _ 1 _ _ (.int .i64 sv) (heap_setCell_same _ _ 0 _ _ (.int .i64 su) t4')
    have HW := Lib.hid hW
    clear hW
    go_wp2_with fail
    refine (HP.out _).mono ?_
    rintro e w9 ⟨rfl, q9⟩
    have hb9 := b_next q9 HW.out
    have m0 : w9.cell? ⟨w.heap.size + 3, 0, none⟩ = some (.int .i64 su) := by rw [cell_of_row w9 _ 0 _ _ _ hb9]; rfl
    have m1 : w9.cell? ⟨w.heap.size + 3, 1, none⟩ = some (.int .i64 sv) := by rw [cell_of_row w9 _ 1 _ _ _ hb9]; rfl
    have f0 := frozen_of_row w9 _ 0 _ _ hb9
    have f1 := frozen_of_row w9 _ 1 _ _ hb9
    have HB := Lib.hid hb9
    clear hb9
    go_wp2_with fail
    refine bodyPost_ret (results_cell_tmp rfl _ _ _ _ _ _ _ rfl (heap_setCell_same _ _ _ _ _ _ (heap_setCell_same _ _ _ _ _ _ HB.out)) Tryd.underlying23 rfl (by kernel_rfl)) rfl ⟨rfl, ?_⟩
    repeat (refine Q.setCell ?_ (by simp; try omega) _)
    exact qw.trans q9

set_option maxRecDepth 100000 in
set_option maxHeartbeats 16000000 in
theorem to_out2 (K L A S x y u v su sv : Int) (ef nf : FuncId) (ec c1 c2 : Value) (w : World) (be : ∀ (args : Array Value) (w : World), (callFunc ef args).run Tryd.prog w = .ok (.enter ef args) w) (bn : ∀ (args : Array Value) (w : World), (callFunc nf args).run Tryd.prog w = .ok (.enter nf args) w) (hv : Prj.vld x y) (hp : ¬ Prj.pt su sv)
    (HE : Hid (∀ w', Q w w' → Calls Tryd.prog ef #[.int .i64 x, .int .i64 y, ec] w' fun e w'' => e = .returned (.int .i64 u) ∧ Q w' w''))
    (HN : Hid (∀ w', Q w w' → Calls Tryd.prog nf #[.int .i64 y, c1, c2] w' fun e w'' => e = .returned (.int .i64 v) ∧ Q w' w''))
    (HSu : Hid (∀ w, Calls Tryd.prog 82 #[.agg #[.int .i64 K, .int .i64 L, .int .i64 A, .int .i64 S], .int .i64 u] w fun e w' => e = .returned (.int .i64 su) ∧ Q w w'))
    (HSv : Hid (∀ w, Calls Tryd.prog 82 #[.agg #[.int .i64 K, .int .i64 L, .int .i64 A, .int .i64 S], .int .i64 v] w fun e w' => e = .returned (.int .i64 sv) ∧ Q w w')) :
    Calls Tryd.prog 58 #[.agg #[.int .i64 K, .int .i64 L, .int .i64 A, .int .i64 S], .agg #[.func (Fn.func ef) #[] #[ec], .func (Fn.func nf) #[] #[c1, c2]], .agg #[.int .i64 x, .int .i64 y]] w fun e w' => e = .returned (.tuple #[.agg #[.int .i64 0, .int .i64 0], .int .i64 2]) ∧ Q w w' := by
  have HV := Lib.hid (fun W => svalid_yes x y W hv)
  have HP := Lib.hid (fun W => pvalid_no su sv W hp)
  clear hv hp
  go_enter Tryd.func58, Tryd.ntmps58
  go_wp2_with fail
  refine (HV.out _).mono ?_
  rintro e w1 ⟨rfl, q1⟩
  have hb : w1.heap[w.heap.size + 3]? = some (.cells #[.int .i64 0, .int .i64 0] 23 (0, 0)) := (q1.block (by simp)).trans (by have := heap_alloc_new (((w.alloc (.cells #[.int .i64 K, .int .i64 L, .int .i64 A, .int .i64 S] 45)).alloc (.cells #[.func (Fn.func ef) #[] #[ec], .func (Fn.func nf) #[] #[c1, c2]] 87)).alloc (.cells #[.int .i64 x, .int .i64 y] 23)) (.cells #[.int .i64 0, .int .i64 0] 23); simpa using this)
  have t0 : w1.drew.cell? ⟨w.heap.size + 3, 0, none⟩ = some (.int .i64 0) := by show w1.cell? _ = _; rw [cell_of_row w1 _ 0 _ _ _ hb]; rfl
  have t1 : w1.drew.cell? ⟨w.heap.size + 3, 1, none⟩ = some (.int .i64 0) := by show w1.cell? _ = _; rw [cell_of_row w1 _ 1 _ _ _ hb]; rfl
  have t2 : w1.drew.frozen? ⟨w.heap.size + 3, 0, none⟩ = false := frozen_of_row w1 _ 0 _ _ hb
  have t3 : w1.drew.frozen? ⟨w.heap.size + 3, 1, none⟩ = false := frozen_of_row w1 _ 1 _ _ hb
  have HK : Hid (ToS K L A S x y (.func (Fn.func ef) #[] #[ec]) (.func (Fn.func nf) #[] #[c1, c2]) w w1) := by
    obtain ⟨hc, _⟩ := bcell q1
    refine ⟨?_, ?_, ?_, ?_, ?_, ?_, ?_, ?_, (((q1.behind _).behind _).behind _).behind _⟩
    all_goals (rw [hc _ _ (by simp; try omega)]; simp [go_sem])
  have t4 : w1.drew.heap[w.heap.size + 3]? = some (.cells #[.int .i64 0, .int .i64 0] 23 (0, 0)) := hb
  clear hb
  go_wp2_with fail
  go_region_held3 (fun v => (v.cell? ⟨w.heap.size, 0, none⟩ = some (.int .i64 K) ∧ v.cell? ⟨w.heap.size, 1, none⟩ = some (.int .i64 L) ∧ v.cell? ⟨w.heap.size, 2, none⟩ = some (.int .i64 A) ∧ v.cell? ⟨w.heap.size, 3, none⟩ = some (.int .i64 S) ∧ v.cell? ⟨w.heap.size + 1, 0, none⟩ = some (.func (Fn.func ef) #[] #[ec]) ∧ v.cell? ⟨w.heap.size + 1, 1, none⟩ = some (.func (Fn.func nf) #[] #[c1, c2]) ∧ v.cell? ⟨w.heap.size + 2, 0, none⟩ = some (.int .i64 x) ∧ v.cell? ⟨w.heap.size + 2, 1, none⟩ = some (.int .i64 y) ∧ Q w v)) ((first | (exact to_next HK.out ((Q.refl _).drew)) | (refine to_next ?_ (by assumption); assumption) | (refine to_set (to_set ?_); assumption)))
    (first
      | (go_at_call 82; (first | (with_reducible refine (HSu.out _).mono ?_) | (with_reducible refine (HSv.out _).mono ?_)); (rintro e w' ⟨rfl, q⟩); have t0' := t_next q (b := w.heap.size + 3) (o := 0) (x := .int .i64 0) (by assumption); have t1' := t_next q (b := w.heap.size + 3) (o := 1) (x := .int .i64 0) (by assumption); have t2' := f_next q (b := w.heap.size + 3) (o := 0) (x := .int .i64 0) (by assumption) (by assumption); have t3' := f_next q (b := w.heap.size + 3) (o := 1) (x := .int .i64 0) (by assumption) (by assumption); have t4' := b_next q (b := w.heap.size + 3) (x := .cells #[.int .i64 0, .int .i64 0] 23 (0, 0)) (by assumption))
      | ((first | (with_reducible refine (HE.out _ ?_).mono ?_) | (with_reducible refine (HN.out _ ?_).mono ?_)); (simp only [*]); (rintro e w' ⟨rfl, q⟩); have t0' := t_next q (b := w.heap.size + 3) (o := 0) (x := .int .i64 0) (by assumption); have t1' := t_next q (b := w.heap.size + 3) (o := 1) (x := .int .i64 0) (by assumption); have t2' := f_next q (b := w.heap.size + 3) (o := 0) (x := .int .i64 0) (by assumption) (by assumption); have t3' := f_next q (b := w.heap.size + 3) (o := 1) (x := .int .i64 0) (by assumption) (by assumption); have t4' := b_next q (b := w.heap.size + 3) (x := .cells #[.int .i64 0, .int .i64 0] 23 (0, 0)) (by assumption)))
  all_goals
    have qw := to_qw ‹_›
    have hW := heap_setCell_same _ _ 1 _ _ (.int .i64 sv) (heap_setCell_same _ _ 0 _ _ (.int .i64 su) t4')
    have HW := Lib.hid hW
    clear hW
    go_wp2_with fail
    refine (HP.out _).mono ?_
    rintro e w9 ⟨rfl, q9⟩
    have hb9 := b_next q9 HW.out
    have m0 : w9.cell? ⟨w.heap.size + 3, 0, none⟩ = some (.int .i64 su) := by rw [cell_of_row w9 _ 0 _ _ _ hb9]; rfl
    have m1 : w9.cell? ⟨w.heap.size + 3, 1, none⟩ = some (.int .i64 sv) := by rw [cell_of_row w9 _ 1 _ _ _ hb9]; rfl
    have f0 := frozen_of_row w9 _ 0 _ _ hb9
    have f1 := frozen_of_row w9 _ 1 _ _ hb9
    have HB := Lib.hid hb9
    clear hb9
    go_wp2_with fail
    refine bodyPost_ret (results_cell_tmp rfl _ _ _ _ _ _ _ rfl (heap_setCell_same _ _ _ _ _ _ (heap_setCell_same _ _ _ _ _ _ HB.out)) Tryd.underlying23 rfl (by kernel_rfl)) rfl ⟨rfl, ?_⟩
    repeat (refine Q.setCell ?_ (by simp; try omega) _)
    exact qw.trans q9

end Go.Proofs.YtcaabaijkidmgaaDoor
