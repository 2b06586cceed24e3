/-
ring.Next of every ring and memory, in one contract.
Condition: the table of regions of package bus reads as its text lays it.
-/
import Derived.Test.YtcmbnkmbaghkdaaDoorRingNextE
import Derived.Test.YtcmbnkmbaghkdaaDoorRingDesc2
namespace Go.Proofs.YtcmbnkmbaghkdaaDoor
open Go.RowKit
set_option linter.unusedVariables false

/-- The head that comes next: none of none: there is an error. -/
def rnext (q : Rg) (m : Mm) : Option (Option Nat) :=
  if q.okP then
    match rload m ((q.av + 2) % 4294967296) 2 with
    | none => none
    | some c => if c = q.la then some none else
      if q.size < ((c + 65536 - q.la) % 65536 : Nat) then none else
      match rload m ((q.av + 4 + 2 * (q.la % q.size.toNat)) % 4294967296) 2 with
      | none => none
      | some hd => if hd < q.size.toNat then some (some hd) else none
  else none
def Rg.took (q : Rg) : Rg := { q with la := (q.la + 1) % 65536 }
def errR (q : Rg) : Nat := if q.okP then 22 else 1
def nextV (q : Rg) : Option (Option Nat) → Value
  | none => .tuple #[.agg Rg.zero.c, .int .i64 0, .bool false, errV (errR q)]
  | some none => .tuple #[.agg q.c, .int .i64 0, .bool false, .nilIface]
  | some (some h) => .tuple #[.agg q.took.c, .int .i64 h, .bool true, .nilIface]
theorem rload_lt2 {m : Mm} {a c : Nat} (h : rload m a 2 = some c) : c < 65536 := by
  unfold rload at h
  split at h
  · obtain rfl := Option.some.inj h
    exact gp_lt2 _ _
  · cases h
theorem next_arg (av la n : Nat) (hla : la < 65536) (hn : 1 ≤ n) (hn2 : n ≤ 256) : IntKind.u32.wrap (IntKind.u32.wrap ((av : Int) + 4) + IntKind.u32.wrap (2 * IntKind.u32.wrap ((IntKind.i64.wrap (la : Int)).tmod (n : Int)))) = (((av + 4 + 2 * (la % n)) % 4294967296 : Nat) : Int) := by
  have e : IntKind.i64.wrap (la : Int) = (la : Int) := by rw [IntKind.wrap_i64]; omega
  rw [e, Int.tmod_eq_emod_of_nonneg (by omega)]
  have e2 : ((la : Int) % (n : Int)) = ((la % n : Nat) : Int) := by omega
  rw [e2]
  have hlt : la % n < n := Nat.mod_lt _ (by omega)
  generalize la % n = x at hlt
  simp only [IntKind.wrap_u32]
  omega
theorem ring_Next_all {g : Nat} {m : Mm} {F : Nat → Prop} {w : World} (q : Rg) (hq : q.wf) (h : RamIs w g m F) (hr : RegAt w) (hrf : ¬ F 0) :
    Calls Tryd.prog 78 #[.agg q.c, .pointer (some ⟨g, 0, none⟩)] w fun e w' => ∃ F2, e = .returned (nextV q (rnext q m)) ∧ RamIs w' g m F2 ∧ MemStep F F2 w w' := by
  have HB : ∀ W, Calls Tryd.prog 110 #[.agg q.c, .pointer (some ⟨g, 0, none⟩)] W fun e w' => e = .returned (errV (if q.okP then 0 else 1)) ∧ Below W.heap.size W w' := fun W => ring_bad q g W
  by_cases hok : q.okP
  · obtain ⟨h1, h2, h3, h4, h5, h6⟩ := hok
    have hok : q.okP := ⟨h1, h2, h3, h4, h5, h6⟩
    obtain ⟨n, hn⟩ : ∃ n : Nat, q.size = (n : Int) := ⟨q.size.toNat, by omega⟩
    have hn1 : 1 ≤ n := by omega
    have hn2 : n ≤ 256 := by omega
    have hav := hq.hav
    have hla := hq.hla
    rw [if_pos hok] at HB
    have hqc : q.c = #[.int .i64 n, .int .u32 q.de, .int .u32 q.av, .int .u32 q.us, .int .u16 q.la, .int .u16 q.pu] := by unfold Rg.c; rw [hn]
    have HL : ∀ W F', RamIs W g m F' → MemStep F F' w W → Calls Tryd.prog 111 #[.pointer (some ⟨g, 0, none⟩), .int .u32 (((q.av : Int) + 2) % 4294967296), .int .i64 2] W fun e w' => ∃ F2, e = .returned (loadV (rload m ((q.av + 2) % 4294967296) 2)) ∧ RamIs w' g m F2 ∧ MemStep F' F2 W w' := fun W F' a b =>
      ring_load a (reg_step hr b hrf).1 ((q.av + 2) % 4294967296) 2 _ 2 (by omega) rfl (by omega) (.inr (.inl rfl)) (by omega)
    have HL2 : ∀ W F', RamIs W g m F' → MemStep F F' w W → Calls Tryd.prog 111 #[.pointer (some ⟨g, 0, none⟩), .int .u32 (((q.av + 4 + 2 * (q.la % n)) % 4294967296 : Nat) : Int), .int .i64 2] W fun e w' => ∃ F2, e = .returned (loadV (rload m ((q.av + 4 + 2 * (q.la % n)) % 4294967296) 2)) ∧ RamIs w' g m F2 ∧ MemStep F' F2 W w' := fun W F' a b =>
      ring_load a (reg_step hr b hrf).1 _ 2 _ 2 rfl rfl (by omega) (.inr (.inl rfl)) (by omega)
    have hnn : q.size.toNat = n := by omega
    have hE : nextV q none = .tuple #[.agg Rg.zero.c, .int .i64 0, .bool false, .iface 104 (.int .i64 22)] := by unfold nextV errR; rw [if_pos hok]; rfl
    have hS : nextV q (some none) = .tuple #[.agg #[.int .i64 n, .int .u32 q.de, .int .u32 q.av, .int .u32 q.us, .int .u16 q.la, .int .u16 q.pu], .int .i64 0, .bool false, .nilIface] := by unfold nextV; rw [hqc]
    have hT : ∀ x : Nat, nextV q (some (some x)) = .tuple #[.agg #[.int .i64 n, .int .u32 q.de, .int .u32 q.av, .int .u32 q.us, .int .u16 ((q.la + 1) % 65536 : Nat), .int .u16 q.pu], .int .i64 x, .bool true, .nilIface] := fun x => by
      have ht : q.took.c = #[.int .i64 n, .int .u32 q.de, .int .u32 q.av, .int .u32 q.us, .int .u16 ((q.la + 1) % 65536 : Nat), .int .u16 q.pu] := by unfold Rg.took Rg.c; rw [hn]
      unfold nextV
      rw [ht]
    unfold rnext
    rw [if_pos hok, hnn]
    rw [hqc] at HB ⊢
    cases e1 : rload m ((q.av + 2) % 4294967296) 2 with
    | none =>
      rw [e1] at HL
      simp only
      rw [hE]
      exact ring_Next_noload n q.de q.av q.us q.la q.pu h (Lib.hid HB) (Lib.hid (fun W F' a _ b => HL W F' a b))
    | some c =>
      have hc := rload_lt2 e1
      rw [e1] at HL
      simp only
      by_cases hcl : c = q.la
      · rw [if_pos hcl, hS]
        exact ring_Next_none n q.de q.av q.us q.la q.pu c h hn1 hn2 hla hc (Lib.hid HB) (Lib.hid (fun W F' a _ b => HL W F' a b)) hcl.symm
      · rw [if_neg hcl]
        have hdd : ((c : Int) - (q.la : Int)) % 65536 = (((c + 65536 - q.la) % 65536 : Nat) : Int) := by omega
        have hdb : (c + 65536 - q.la) % 65536 < 65536 := Nat.mod_lt _ (by omega)
        generalize (c + 65536 - q.la) % 65536 = dd at hdd hdb
        by_cases hfar : q.size < (dd : Int)
        · rw [if_pos hfar, hE]
          exact ring_Next_far n q.de q.av q.us q.la q.pu c h hn1 hn2 hla hc (Lib.hid HB) (Lib.hid (fun W F' a _ b => HL W F' a b)) hcl dd hdd hdb (by omega)
        · rw [if_neg hfar]
          cases e2 : rload m ((q.av + 4 + 2 * (q.la % n)) % 4294967296) 2 with
          | none =>
            rw [e2] at HL2
            simp only
            rw [hE]
            exact ring_Next_noload2 n q.de q.av q.us q.la q.pu c h hn1 hn2 hla hc (Lib.hid HB) (Lib.hid (fun W F' a _ b => HL W F' a b)) hcl dd hdd hdb (by omega) _ (Lib.hid (next_arg q.av q.la n hla hn1 hn2)) (Lib.hid HL2)
          | some hd =>
            have hhd := rload_lt2 e2
            rw [e2] at HL2
            simp only
            by_cases hlt : hd < n
            · rw [if_pos hlt]
              have hz := ring_Next_some n q.de q.av q.us q.la q.pu c h hn1 hn2 hla hc (Lib.hid HB) (Lib.hid (fun W F' a _ b => HL W F' a b)) hd hcl dd hdd (by omega) hlt _ (Lib.hid (next_arg q.av q.la n hla hn1 hn2)) (Lib.hid HL2)
              rw [show IntKind.u16.wrap ((q.la : Int) + 1) = (((q.la + 1) % 65536 : Nat) : Int) by rw [IntKind.wrap_u16]; omega] at hz
              rw [hT]
              exact hz
            · rw [if_neg hlt, hE]
              exact ring_Next_high n q.de q.av q.us q.la q.pu c h hn1 hn2 hla hc (Lib.hid HB) (Lib.hid (fun W F' a _ b => HL W F' a b)) hcl dd hdd hdb hd (by omega) hhd (by omega) _ (Lib.hid (next_arg q.av q.la n hla hn1 hn2)) (Lib.hid HL2)
  · have hn : rnext q m = none := if_neg hok
    rw [hn]
    rw [if_neg hok] at HB
    unfold nextV errR
    rw [if_neg hok]
    exact ring_Next_bad q.size q.de q.av q.us q.la q.pu h (Lib.hid HB)
end Go.Proofs.YtcmbnkmbaghkdaaDoor
