/-
(*mem.Ram).Load, walked.
No condition.
-/
import Derived.Test.YtcakcfeipfjmpaaDoorWordGet
import Derived.Test.YtcakcfeipfjmpaaDoorMemErr
namespace Go.Proofs.YtcakcfeipfjmpaaDoor
open Go.RowKit
set_option linter.unusedVariables false

theorem gp_shift (f : Nat → UInt8) (b o k : Nat) : gp (fun j => f (b + j)) o k = gp f (b + o) k := by
  induction k with
  | zero => rfl
  | succ k ih => simp only [gp]; rw [ih, Nat.add_assoc]
set_option maxRecDepth 100000 in
set_option maxHeartbeats 1600000 in
theorem mem_Load_ok {g : Nat} {m : Mm} {F : Nat → Prop} {w : World} (h : RamIs w g m F) (a k : Nat) (ha : a < 4294967296) (hk : okN k) (hs : a + k ≤ 4096 * m.n) (hr : a % k = 0) :
    Calls Tryd.prog 24 #[.pointer (some ⟨g, 0, none⟩), .int .u32 a, .int .i64 k] w fun e w' => ∃ F', e = .returned (.tuple #[.int .u32 (gp m.f a k : Nat), .nilIface]) ∧ RamIs w' g m F' ∧ MemStep F F' w w' := by
  have HC := Lib.hid (mem_check_ok h a k ha hk hs hr)
  have hk1 : 1 ≤ k ∧ k ≤ 4 := by rcases hk with rfl | rfl | rfl <;> omega
  have hin : a / 4096 < m.n := by omega
  have hoff : a % 4096 + k ≤ 4096 := by rcases hk with rfl | rfl | rfl <;> omega
  have hr2 : a % 4096 % k = 0 := by rcases hk with rfl | rfl | rfl <;> omega
  have HAT := Lib.hid (mem_at h (a / 4096) hin)
  have HG := Lib.hid (fun W b c (r : Row W b 5 4096 (cellU (fun j => m.f (4096 * (a / 4096) + j)))) (hc : 4096 ≤ c) => word_Get_ok r hc (a % 4096) k hk hoff hr2 (by omega))
  have eg : gp (fun j => m.f (4096 * (a / 4096) + j)) (a % 4096) k = gp m.f a k := by rw [gp_shift]; congr 1; omega
  rw [eg] at HG
  have hn2 := h.n2
  have ha0 : (0 : Int) ≤ a := by omega
  have hai : (a : Int) < 4294967296 := by omega
  clear h hs hr hk eg
  go_enter Tryd.func24, Tryd.ntmps24
  go_wp2_with fail
  refine (HC.out).mono ?_
  rintro e w1 ⟨rfl, rfl⟩
  go_wp2_with fail
  refine (HAT.out).mono ?_
  rintro e w2 ⟨kk, c, F2, rfl, hc, h1, h2, h3, h4⟩
  have HGK := Lib.hid (HG.out w2 kk c h2 hc)
  have HK := Lib.hid (And.intro h1 h3)
  clear h1 h2 h3 h4 HG HAT hc
  go_wp2_with fail
  refine (HGK.out).mono ?_
  rintro e w3 ⟨rfl, hb⟩
  go_wp2_with fail
  go_ret2
  exact ⟨F2, rfl, HK.out.1.below hb, HK.out.2.below hb⟩
set_option maxRecDepth 100000 in
theorem mem_Load_err (p : Option Addr) (a : Nat) (k : Int) (q : Nat) {w : World} (hq : 0 < q) (HC : Hid (Calls Tryd.prog 68 #[.pointer p, .int .u32 a, .int .i64 k] w fun e w' => e = .returned (errV q) ∧ w = w')) :
    Calls Tryd.prog 24 #[.pointer p, .int .u32 a, .int .i64 k] w fun e w' => e = .returned (.tuple #[.int .u32 0, errV q]) ∧ w = w' := by
  rw [errV_val hq] at HC ⊢
  clear hq
  go_enter Tryd.func24, Tryd.ntmps24
  go_wp2_with fail
  refine (HC.out).mono ?_
  rintro e w' ⟨rfl, rfl⟩
  go_wp2_with fail
  go_ret2
  exact ⟨rfl, rfl⟩
end Go.Proofs.YtcakcfeipfjmpaaDoor
