
/- Contract of project.Path: the path of a list of positions. -/
import Derived.Test.YtmagppjmjjkbjaaPrjH
import Derived.Test.YtmagppjmjjkbjaaPrjW
import Derived.Test.YtmagppjmjjkbjaaPrjX
import Derived.Test.YtmagppjmjjkbjaaPts
namespace Go.Proofs.Ytmagppjmjjkbjaa
open Go.RowKit
set_option linter.unusedVariables false

namespace Prj
/-- A point is added to a path unless it is the last one. -/
def push (acc : List (Int × Int)) (q : Int × Int) : List (Int × Int) := if acc.getLast? = some q then acc else acc ++ [q]
/-- The path of the first k positions. -/
def pth (K L A S : Int) (l : List (Int × Int)) : Nat → List (Int × Int)
  | 0 => []
  | k + 1 => push (pth K L A S l k) (qx K L A S (l[k]?.getD (0, 0)).1 (l[k]?.getD (0, 0)).2, qy K L A S (l[k]?.getD (0, 0)).1 (l[k]?.getD (0, 0)).2)
def allGood (K L A S : Int) (l : List (Int × Int)) : Prop := ∀ p ∈ l, good K L A S p.1 p.2
instance (K L A S : Int) (l : List (Int × Int)) : Decidable (allGood K L A S l) := by unfold allGood; infer_instance
def pl (K L A S : Int) (l : List (Int × Int)) : List (Int × Int) := if allGood K L A S l then pth K L A S l l.length else []
def pe (K L A S : Int) (l : List (Int × Int)) : Int := if allGood K L A S l then 0 else 2
theorem push_len (acc : List (Int × Int)) (q : Int × Int) : (push acc q).length ≤ acc.length + 1 := by
  unfold push
  split <;> simp
theorem pth_len (K L A S : Int) (l : List (Int × Int)) (k : Nat) : (pth K L A S l k).length ≤ k := by
  induction k with
  | zero => exact Nat.le_refl _
  | succ k ih =>
    have := push_len (pth K L A S l k) (qx K L A S (l[k]?.getD (0, 0)).1 (l[k]?.getD (0, 0)).2, qy K L A S (l[k]?.getD (0, 0)).1 (l[k]?.getD (0, 0)).2)
    rw [pth]
    omega
theorem push_nil (q : Int × Int) : push [] q = [q] := rfl
theorem push_same (acc : List (Int × Int)) (q : Int × Int) (h : acc.getLast? = some q) : push acc q = acc := if_pos h
theorem push_other (acc : List (Int × Int)) (q : Int × Int) (h : acc.getLast? ≠ some q) : push acc q = acc ++ [q] := if_neg h
theorem last_at (acc : List (Int × Int)) (m : Nat) (h : acc.length = m + 1) : acc.getLast? = some (acc[m]'(by omega)) := by
  rw [List.getLast?_eq_getElem?, show acc.length - 1 = m by omega]
  exact List.getElem?_eq_getElem _
end Prj
theorem infoPoint : (Try.prog.info? 29).map (fun i => (i.zero, i.size, i.bytes)) = some (some (.agg #[.int .i64 0, .int .i64 0]), 2, 16) := by kernel_rfl
def PathPost (l : List (Int × Int)) (er : Int) (w : World) (e : Ending) (w' : World) : Prop := ∃ v, e = .returned (.tuple #[v, .int .i64 er]) ∧ Pts w' v l ∧ Q w w'
/-- A row of the call's own, as a slice value. -/
theorem own_slice {w : World} {base e size n : Nat} {v : Value} {xs : List Value} (h : w.ownsRow base e size v n xs) : ∃ A c, v = .slice A n c ∧ n ≤ c := by
  rcases h.2 with ⟨hv, rfl⟩ | ⟨g, cap, cur, hv, h1, h2, h3, h4, h5⟩
  · exact ⟨none, 0, hv, Nat.le_refl _⟩
  · exact ⟨_, _, hv, by omega⟩
/-- The last point of a path of the call's own. -/
theorem own_last {w : World} {base m : Nat} {v : Value} {acc : List (Int × Int)} (h : w.ownsRow base 29 2 v acc.length (ptCells acc)) (hm : acc.length = m + 1) :
    ∃ ad c, v = .slice (some ad) (m + 1) c ∧ m + 1 ≤ c ∧ w.cell? (ad.add (m * 2)) = some (.int .i64 (acc[m]'(by omega)).1) ∧ w.cell? ⟨(ad.add (m * 2)).block, (ad.add (m * 2)).off + 1, none⟩ = some (.int .i64 (acc[m]'(by omega)).2) := by
  obtain ⟨A, c, hv, hc⟩ := own_slice h
  subst hv
  obtain ⟨ad, e, _, h1, h2⟩ := Pts.at_ (Reads.of_own h) m (by omega)
  subst e
  exact ⟨ad, c, by rw [hm], by omega, h1, h2⟩

theorem Path_err (K L A S er : Int) (v : Value) (her : (er != 0) = true) (w : World) (HC : Hid (∀ w, Calls Try.prog 11 #[.agg #[.int .i64 K, .int .i64 L, .int .i64 A, .int .i64 S]] w fun e w' => e = .returned (.int .i64 er) ∧ Q w w')) :
    Calls Try.prog 17 #[.agg #[.int .i64 K, .int .i64 L, .int .i64 A, .int .i64 S], v] w (PathPost [] er w) := by
  go_enter Try.func17, Try.ntmps17
  go_wp2_with fail
  refine (HC.out _).mono ?_
  rintro e w1 ⟨rfl, q1⟩
  go_wp2_with fail
  go_ret2
  exact ⟨_, rfl, Pts.nil _, q1.behind _⟩
theorem Path_limit (K L A S : Int) (v : Value) (l : List (Int × Int)) (w : World) (h : Prj.Ok K L A S) (hv : Pts w v l) (hl : 4096 < l.length) (hm : l.length ≤ 4611686018427387904) :
    Calls Try.prog 17 #[.agg #[.int .i64 K, .int .i64 L, .int .i64 A, .int .i64 S], v] w (PathPost [] 3 w) := by
  obtain ⟨A', c, rfl, hc, hr⟩ := hv
  have HC := Lib.hid (fun W => pcheck_yes K L A S W h)
  have d : decide (4096 < (l.length : Int)) = true := by simp; omega
  clear h hr
  go_enter Try.func17, Try.ntmps17
  go_wp2_with fail
  refine (HC.out _).mono ?_
  rintro e w1 ⟨rfl, q1⟩
  go_wp2_with fail
  go_ret2
  exact ⟨_, rfl, Pts.nil _, q1.behind _⟩

theorem rPath_err (K L A S er : Int) (v : Value) (her : (er != 0) = true) (w : World) (HC : Hid (∀ w, Calls Try.prog 12 #[.agg #[.int .i64 K, .int .i64 L, .int .i64 A, .int .i64 S]] w fun e w' => e = .returned (.int .i64 er) ∧ Q w w')) :
    Calls Try.prog 18 #[.agg #[.int .i64 K, .int .i64 L, .int .i64 A, .int .i64 S], v] w (PathPost [] er w) := by
  go_enter Try.func18, Try.ntmps18
  go_wp2_with fail
  refine (HC.out _).mono ?_
  rintro e w1 ⟨rfl, q1⟩
  go_wp2_with fail
  go_ret2
  exact ⟨_, rfl, Pts.nil _, q1.behind _⟩
theorem rPath_limit (K L A S : Int) (v : Value) (l : List (Int × Int)) (w : World) (h : Prj.Ok K L A S) (hv : Pts w v l) (hl : 4096 < l.length) (hm : l.length ≤ 4611686018427387904) :
    Calls Try.prog 18 #[.agg #[.int .i64 K, .int .i64 L, .int .i64 A, .int .i64 S], v] w (PathPost [] 3 w) := by
  obtain ⟨A', c, rfl, hc, hr⟩ := hv
  have HC := Lib.hid (fun W => rpcheck_yes K L A S W h)
  have d : decide (4096 < (l.length : Int)) = true := by simp; omega
  clear h hr
  go_enter Try.func18, Try.ntmps18
  go_wp2_with fail
  refine (HC.out _).mono ?_
  rintro e w1 ⟨rfl, q1⟩
  go_wp2_with fail
  go_ret2
  exact ⟨_, rfl, Pts.nil _, q1.behind _⟩

end Go.Proofs.Ytmagppjmjjkbjaa
