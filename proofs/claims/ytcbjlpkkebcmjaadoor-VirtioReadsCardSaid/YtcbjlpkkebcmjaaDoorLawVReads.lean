/-
pinnacelaw14.VirtioReads, walked: it answers true.
Condition: the handle of error reads as its text lays it.
-/
import Derived.Test.YtcbjlpkkebcmjaaDoorRef14R
import Derived.Test.YtcbjlpkkebcmjaaDoorVioEql
import Derived.Test.YtcbjlpkkebcmjaaDoorSure14
import Derived.Test.YtcbjlpkkebcmjaaDoorNum14
import Derived.OrdersHeld
import Derived.Deep.MidRow
import Derived.Deep.RegionHeld
namespace Go.Proofs.YtcbjlpkkebcmjaaDoor
open Go.RowKit
set_option linter.unusedVariables false

/-- What the last row reads: the program's state in a box, the document's in another. -/
structure VR (w W : World) (c : Array Value) (b7 : Nat) : Prop where
  k7 : W.heap[b7]? = some (.cells c 63 (0, 0))
  k3 : W.heap[w.heap.size]? = some (.cells c 57 (0, 0))
  fr : Below w.heap.size w W
theorem VR.below {w W W' : World} {c : Array Value} {b7 : Nat} (h : VR w W c b7) (hb : Below W.heap.size W W') : VR w W' c b7 := ⟨keepB h.k7 hb, keepB h.k3 hb, h.fr.trans (hb.mono h.fr.size)⟩
theorem yieldsIf_bin {P : Program} {ops : Array Oper} {S : World → Prop} {op : Oper} {a : Act} (hw : Region.wanted op (yielded ops a.tmps) = true) (b : BinOp) (t : TypeId) (x y : Operand) (t2 : TypeId) (ho : op.op = .binOp b t x y t2) (v vx vy : Value) (hx : a.eval x = vx) (hy : a.eval y = vy)
    (hg : ∀ w, (eqGuard b t x y vx vy).run P w = .ok () w) (h : ∀ w, (binOp b t vx vy).run P w = .ok v w) : YieldsIf P ops S op v a :=
  .inl ⟨hw, fun w _ => by
    subst hx hy
    unfold execOp
    simp only [ho, Sem.run_bind, Sem.run_pure, h, hg, Result.andThen_ok]⟩
theorem vs_guard (x y : Operand) (f : Array Value) (w : World) : (eqGuard BinOp.eql 63 x y (.agg f) (.agg f)).run Tryd.prog w = .ok () w := by
  have h : Tryd.prog.eqGuardType Tryd.prog.depth 63 = false := by kernel_rfl
  simp [eqGuard, go_sem, h]
theorem row_rangeV {w : World} {g : Nat} {c : Array Value} {t : TypeId} {fr : Nat × Nat} (h : w.heap[g]? = some (.cells c t fr)) : w.rangeAt g 0 c.toList := range_of_row h 0 _ fun j v hv => by rw [Nat.zero_add]; simpa using hv
set_option maxRecDepth 100000 in
set_option maxHeartbeats 16000000 in
theorem vreads_row (c f u : Array Value) (V N r id a : Nat) (lv : Bool) (w : World) (hcz : c.size = 21) (hone : c.all (·.oneCell') = true) (he : ErrAt w)
    (HG : Hid (∀ W, Calls Tryd.prog 22 #[.agg c] W fun e w' => e = .returned (.agg c) ∧ Below W.heap.size W w'))
    (HGF : Hid (∀ W, Calls Tryd.prog 22 #[.agg f] W fun e w' => e = .returned (.agg f) ∧ Below W.heap.size W w'))
    (HGU : Hid (∀ W, Calls Tryd.prog 22 #[.agg u] W fun e w' => e = .returned (.agg u) ∧ Below W.heap.size W w'))
    (HR1 : Hid (∀ W, Calls Tryd.prog 23 #[.agg c, .int .u32 id, .int .u32 a] W fun e w' => e = .returned (.tuple #[.int .u32 V, errV N]) ∧ Below W.heap.size W w'))
    (HR2 : Hid (∀ W, Calls Tryd.prog 24 #[.agg c, .int .u32 id, .int .u32 a] W fun e w' => e = .returned (.tuple #[.int .u32 V, .int .i64 N]) ∧ Below W.heap.size W w'))
    (HC1 : Hid (∀ W, Calls Tryd.prog 26 #[.agg c] W fun e w' => e = .returned (errV r) ∧ Below W.heap.size W w'))
    (HC2 : Hid (∀ W, Calls Tryd.prog 27 #[.agg c] W fun e w' => e = .returned (.int .i64 r) ∧ Below W.heap.size W w'))
    (HL1 : Hid (∀ W, Calls Tryd.prog 28 #[.agg c] W fun e w' => e = .returned (.bool lv) ∧ Below W.heap.size W w'))
    (HL2 : Hid (∀ W, Calls Tryd.prog 29 #[.agg c] W fun e w' => e = .returned (.bool lv) ∧ Below W.heap.size W w'))
    (HF1 : Hid (∀ W, Calls Tryd.prog 30 #[.agg c] W fun e w' => e = .returned (.agg f) ∧ Below W.heap.size W w'))
    (HF2 : Hid (∀ W, Calls Tryd.prog 31 #[.agg c] W fun e w' => e = .returned (.agg f) ∧ Below W.heap.size W w'))
    (HU1 : Hid (∀ W, Calls Tryd.prog 32 #[.agg c] W fun e w' => e = .returned (.agg u) ∧ Below W.heap.size W w'))
    (HU2 : Hid (∀ W, Calls Tryd.prog 33 #[.agg c] W fun e w' => e = .returned (.agg u) ∧ Below W.heap.size W w'))
    (HEF : Hid (∀ W, (binOp BinOp.eql 63 (.agg f) (.agg f)).run Tryd.prog W = .ok (.bool true) W)) (HEU : Hid (∀ W, (binOp BinOp.eql 63 (.agg u) (.agg u)).run Tryd.prog W = .ok (.bool true) W)) :
    Calls Tryd.prog 4 #[.agg c, .int .u32 id, .int .u32 a] w fun e w' => e = .returned (.bool true) ∧ Below w.heap.size w w' := by
  have HI7 := Lib.hid (show (Tryd.prog.info? 63).map (·.size) = some c.size by rw [hcz]; kernel_rfl)
  have HI3 := Lib.hid (show (Tryd.prog.info? 57).map (·.size) = some c.size by rw [hcz]; kernel_rfl)
  have HL7 := Lib.hid (show (Tryd.prog.info? 63).map (·.size) = some c.toList.length by rw [show c.toList.length = 21 by simpa using hcz]; kernel_rfl)
  have HL3 := Lib.hid (show (Tryd.prog.info? 57).map (·.size) = some c.toList.length by rw [show c.toList.length = 21 by simpa using hcz]; kernel_rfl)
  have HZC : Hid (VS.zero.c.size = c.size) := Lib.hid (by rw [hcz]; rfl)
  have HO := Lib.hid hone
  have HER := Lib.hid he
  have K0 := Lib.hid (heap_alloc_new w (.cells c 57))
  have HB0 := Lib.hid ((Below.refl w.heap.size w).alloc (Nat.le_refl _) (.cells c 57))
  clear hcz hone he
  go_enter Tryd.func4, Tryd.ntmps4
  go_upto_region 1 with fail
  change Code.wp _ _ _ _ (w.alloc (.cells c 57))
  generalize w.alloc (.cells c 57) = w1 at K0 HB0 ⊢
  go_wp2_with (refine wpList_load_row rfl 57 _ rfl w.heap.size rfl 57 c (0, 0) _ K0.out Tryd.underlying57 rfl HI3.out ?_)
  refine (HG.out _).mono ?_
  rintro e w2 ⟨rfl, hb⟩
  have K2 := Lib.hid (keepB K0.out hb)
  have HB2 := Lib.hid (HB0.out.trans (hb.mono HB0.out.size))
  clear hb K0 HB0
  have KN := Lib.hid (heap_alloc_new w2 (.cells #[.int .u32 0, .int .u32 0, .int .u32 0, .int .u32 0, .int .u32 0, .int .u32 0, .int .u32 0, .bool false, .int .i64 0, .int .u32 0, .int .u32 0, .int .u32 0, .int .u16 0, .int .u16 0, .bool false, .int .i64 0, .int .u32 0, .int .u32 0, .int .u32 0, .int .u16 0, .int .u16 0] 63))
  have HBA := Lib.hid ((Below.refl w2.heap.size w2).alloc (Nat.le_refl _) (.cells #[.int .u32 0, .int .u32 0, .int .u32 0, .int .u32 0, .int .u32 0, .int .u32 0, .int .u32 0, .bool false, .int .i64 0, .int .u32 0, .int .u32 0, .int .u32 0, .int .u16 0, .int .u16 0, .bool false, .int .i64 0, .int .u32 0, .int .u32 0, .int .u32 0, .int .u16 0, .int .u16 0] 63))
  have K2a := Lib.hid (keepB K2.out HBA.out)
  have HLT := Lib.hid (lt_heap K2.out)
  have HB2a := Lib.hid (HB2.out.trans (HBA.out.mono HB2.out.size))
  have HSZ := Lib.hid HB2.out.size
  go_wp2_with (refine wpList_store_to rfl 63 _ _ rfl w2.heap.size c rfl rfl 63 VS.zero.c KN.out HI7.out HZC.out HO.out ?_)
  intro w3 hx hk
  have R3 : Hid (VR w w3 c w2.heap.size) := Lib.hid ⟨hk, hx.out.heap K2a.out (Nat.ne_of_lt HLT.out), HB2a.out.trans (hx.out.below (B := w.heap.size) (fun k hk e => by have := HSZ.out; omega) HB2a.out.size)⟩
  clear hx hk KN HBA K2a HLT HB2a HSZ K2 HB2
  generalize w2.heap.size = b7 at R3 ⊢
  go_wp2_with (refine wpList_load_row rfl 63 _ rfl b7 rfl 63 c (0, 0) _ R3.out.k7 Tryd.underlying63 rfl HI7.out ?_)
  refine (HR1.out _).mono ?_
  rintro e w4 ⟨rfl, hb⟩
  have R4 := Lib.hid (R3.out.below hb)
  clear hb R3
  go_wp2_with (refine wpList_load_row rfl 57 _ rfl w.heap.size rfl 57 c (0, 0) _ R4.out.k3 Tryd.underlying57 rfl HI3.out ?_)
  refine (HR2.out _).mono ?_
  rintro e w5 ⟨rfl, hb⟩
  have R5 := Lib.hid (R4.out.below hb)
  clear hb R4 HR1 HR2 HG
  have R6 : Hid (VR w w5.drew c b7) := Lib.hid (R5.out.below (Below.refl _ _).drew)
  have HNN := Lib.hid (fun W (h : VR w W c b7) => num14_of N W (HER.out.below h.fr))
  have HNR := Lib.hid (fun W (h : VR w W c b7) => num14_of r W (HER.out.below h.fr))
  have HSU := Lib.hid (fun W => law14_sure W)
  clear R5
  go_wp2_with fail
  refine wp_region_held_drew (S := fun W => VR w W c b7) (by kernel_rfl) R6.out (fun hS0 => ?_)
  refine wpAnyH_take (i := 0) (v := ?v0) rfl (by kernel_rfl) (by kernel_rfl) (by kernel_rfl) (fun _ _ _ h => h) (Or.inl ⟨by rfl, ?hy0⟩) (by assumption) ?rest0
  case hy0 => (intro W hSw; go_simp; first | done | with_reducible rfl)
  simp only [Act.put, List.getElem_toArray, List.getElem_cons_zero, List.setIfInBounds_toArray, List.set_cons_zero, List.set_cons_succ]
  refine wpAnyH_take (i := 1) (v := ?v1) rfl (by kernel_rfl) (by kernel_rfl) (by kernel_rfl) (fun _ _ _ h => h) (Or.inl ⟨by rfl, ?hy1⟩) (by assumption) ?rest1
  case hy1 => (intro W hSw; go_simp; first | done | with_reducible rfl)
  simp only [Act.put, List.getElem_toArray, List.getElem_cons_zero, List.getElem_cons_succ, List.setIfInBounds_toArray, List.set_cons_zero, List.set_cons_succ]
  refine wpAnyH_take (i := 2) (v := ?v2) rfl (by kernel_rfl) (by kernel_rfl) (by kernel_rfl) (fun _ _ _ h => h) (Or.inl ⟨by rfl, ?hy2⟩) (by assumption) ?rest2
  case hy2 => (intro W hSw; go_simp; first | done | with_reducible rfl)
  simp only [Act.put, List.getElem_toArray, List.getElem_cons_zero, List.getElem_cons_succ, List.setIfInBounds_toArray, List.set_cons_zero, List.set_cons_succ]
  refine wpAnyH_take (i := 3) (v := ?v3) rfl (by kernel_rfl) (by kernel_rfl) (by kernel_rfl) (fun _ _ _ h => h) (Or.inl ⟨by rfl, ?hy3⟩) (by assumption) ?rest3
  case hy3 => (intro W hSw; go_simp; first | done | with_reducible rfl)
  simp only [Act.put, List.getElem_toArray, List.getElem_cons_zero, List.getElem_cons_succ, List.setIfInBounds_toArray, List.set_cons_zero, List.set_cons_succ]
  refine wpAnyH_take (i := 4) (v := ?v4) rfl (by kernel_rfl) (by kernel_rfl) (by kernel_rfl) (fun _ _ _ h => h) (Or.inl ⟨by rfl, ?hy4⟩) (by assumption) ?rest4
  case hy4 => (intro W hSw; go_simp; first | done | with_reducible rfl)
  simp only [Act.put, List.getElem_toArray, List.getElem_cons_zero, List.getElem_cons_succ, List.setIfInBounds_toArray, List.set_cons_zero, List.set_cons_succ]
  refine wpAnyH_take (i := 6) (v := ?v6) rfl (by kernel_rfl) (by kernel_rfl) (by kernel_rfl) (fun _ _ _ h => h) (Or.inl ⟨by rfl, ?hy6⟩) (by assumption) ?rest6
  case hy6 => (intro W hSw; go_simp; first | done | with_reducible rfl)
  simp only [Act.put, List.getElem_toArray, List.getElem_cons_zero, List.getElem_cons_succ, List.setIfInBounds_toArray, List.set_cons_zero, List.set_cons_succ]
  refine wpAnyH_ready (rs := [5]) (by kernel_rfl) (by simp) ?_
  refine AllReadyH.cons (o := _) rfl (fun K hK => ?_) (AllReadyH.nil)
  simp only [List.getElem_toArray, List.getElem_cons_zero, List.getElem_cons_succ]
  try rw [if_pos (by rfl)]
  go_simp
  refine (HNN.out _ hS0).mono ?_
  rintro e wA ⟨rfl, hb⟩
  have hSA := hS0.below hb
  refine hK.out _ _ hSA (fun _ => ?_)
  clear hK K hb
  try simp only [Act.put, List.setIfInBounds_toArray, List.set_cons_zero, List.set_cons_succ]
  refine wpAnyH_take (i := 7) (v := ?v7) rfl (by kernel_rfl) (by kernel_rfl) (by kernel_rfl) (fun _ _ _ h => h) (Or.inl ⟨by rfl, ?hy7⟩) (by assumption) ?rest7
  case hy7 => (intro W hSw; go_simp; first | done | with_reducible rfl)
  simp only [Act.put, List.getElem_toArray, List.getElem_cons_zero, List.getElem_cons_succ, List.setIfInBounds_toArray, List.set_cons_zero, List.set_cons_succ]
  refine wpAnyH_take (i := 8) (v := ?v8) rfl (by kernel_rfl) (by kernel_rfl) (by kernel_rfl) (fun _ _ _ h => h) (Or.inl ⟨by rfl, ?hy8⟩) (by assumption) ?rest8
  case hy8 => (intro W hSw; go_simp; first | done | with_reducible rfl)
  simp only [Act.put, List.getElem_toArray, List.getElem_cons_zero, List.getElem_cons_succ, List.setIfInBounds_toArray, List.set_cons_zero, List.set_cons_succ]
  refine wpAnyH_take (i := 9) (v := ?v9) rfl (by kernel_rfl) (by kernel_rfl) (by kernel_rfl) (fun _ _ _ h => h) (Or.inl ⟨by rfl, ?hy9⟩) (by assumption) ?rest9
  case hy9 => (intro W hSw; go_simp; first | done | with_reducible rfl)
  simp only [Act.put, List.getElem_toArray, List.getElem_cons_zero, List.getElem_cons_succ, List.setIfInBounds_toArray, List.set_cons_zero, List.set_cons_succ]
  refine wpAnyH_take (i := 10) rfl (by kernel_rfl) (by kernel_rfl) (by kernel_rfl) (fun _ _ _ h => h) (yieldsIf_load_mid (by rfl) 63 _ rfl b7 0 rfl c.toList _ (fun W hSw => row_rangeV hSw.k7) Tryd.underlying63 rfl ?hi10g) (by assumption) ?rest10g
  case hi10g => exact HL7.out
  simp only [Act.put, List.getElem_toArray, List.getElem_cons_zero, List.getElem_cons_succ, List.setIfInBounds_toArray, List.set_cons_zero, List.set_cons_succ]
  refine wpAnyH_take (i := 13) rfl (by kernel_rfl) (by kernel_rfl) (by kernel_rfl) (fun _ _ _ h => h) (yieldsIf_load_mid (by rfl) 57 _ rfl w.heap.size 0 rfl c.toList _ (fun W hSw => row_rangeV hSw.k3) Tryd.underlying57 rfl ?hi13g) (by assumption) ?rest13g
  case hi13g => exact HL3.out
  simp only [Act.put, List.getElem_toArray, List.getElem_cons_zero, List.getElem_cons_succ, List.setIfInBounds_toArray, List.set_cons_zero, List.set_cons_succ]
  refine wpAnyH_ready (rs := [11]) (by kernel_rfl) (by simp) ?_
  refine AllReadyH.cons (o := _) rfl (fun K hK => ?_) (AllReadyH.nil)
  simp only [List.getElem_toArray, List.getElem_cons_zero, List.getElem_cons_succ]
  try rw [if_pos (by rfl)]
  go_simp
  refine (HC1.out _).mono ?_
  rintro e wB0 ⟨rfl, hb⟩
  have hSB0 := hSA.below hb
  refine hK.out _ _ hSB0 (fun _ => ?_)
  clear hK K hb
  try simp only [Act.put, List.setIfInBounds_toArray, List.set_cons_zero, List.set_cons_succ]
  refine wpAnyH_ready (rs := [12]) (by kernel_rfl) (by simp) ?_
  refine AllReadyH.cons (o := _) rfl (fun K hK => ?_) (AllReadyH.nil)
  simp only [List.getElem_toArray, List.getElem_cons_zero, List.getElem_cons_succ]
  try rw [if_pos (by rfl)]
  go_simp
  refine (HNR.out _ hSB0).mono ?_
  rintro e wB1 ⟨rfl, hb⟩
  have hSB1 := hSB0.below hb
  refine hK.out _ _ hSB1 (fun _ => ?_)
  clear hK K hb
  try simp only [Act.put, List.setIfInBounds_toArray, List.set_cons_zero, List.set_cons_succ]
  refine wpAnyH_ready (rs := [14]) (by kernel_rfl) (by simp) ?_
  refine AllReadyH.cons (o := _) rfl (fun K hK => ?_) (AllReadyH.nil)
  simp only [List.getElem_toArray, List.getElem_cons_zero, List.getElem_cons_succ]
  try rw [if_pos (by rfl)]
  go_simp
  refine (HC2.out _).mono ?_
  rintro e wB2 ⟨rfl, hb⟩
  have hSB := hSB1.below hb
  refine hK.out _ _ hSB (fun _ => ?_)
  clear hK K hb
  try simp only [Act.put, List.setIfInBounds_toArray, List.set_cons_zero, List.set_cons_succ]
  refine wpAnyH_take (i := 15) (v := ?v15) rfl (by kernel_rfl) (by kernel_rfl) (by kernel_rfl) (fun _ _ _ h => h) (Or.inl ⟨by rfl, ?hy15⟩) (by assumption) ?rest15
  case hy15 => (intro W hSw; go_simp; first | done | with_reducible rfl)
  simp only [Act.put, List.getElem_toArray, List.getElem_cons_zero, List.getElem_cons_succ, List.setIfInBounds_toArray, List.set_cons_zero, List.set_cons_succ]
  refine wpAnyH_take (i := 16) (v := ?v16) rfl (by kernel_rfl) (by kernel_rfl) (by kernel_rfl) (fun _ _ _ h => h) (Or.inl ⟨by rfl, ?hy16⟩) (by assumption) ?rest16
  case hy16 => (intro W hSw; go_simp; first | done | with_reducible rfl)
  simp only [Act.put, List.getElem_toArray, List.getElem_cons_zero, List.getElem_cons_succ, List.setIfInBounds_toArray, List.set_cons_zero, List.set_cons_succ]
  refine wpAnyH_take (i := 17) (v := ?v17) rfl (by kernel_rfl) (by kernel_rfl) (by kernel_rfl) (fun _ _ _ h => h) (Or.inl ⟨by rfl, ?hy17⟩) (by assumption) ?rest17
  case hy17 => (intro W hSw; go_simp; first | done | with_reducible rfl)
  simp only [Act.put, List.getElem_toArray, List.getElem_cons_zero, List.getElem_cons_succ, List.setIfInBounds_toArray, List.set_cons_zero, List.set_cons_succ]
  refine wpAnyH_take (i := 18) rfl (by kernel_rfl) (by kernel_rfl) (by kernel_rfl) (fun _ _ _ h => h) (yieldsIf_load_mid (by rfl) 63 _ rfl b7 0 rfl c.toList _ (fun W hSw => row_rangeV hSw.k7) Tryd.underlying63 rfl ?hi18g) (by assumption) ?rest18g
  case hi18g => exact HL7.out
  simp only [Act.put, List.getElem_toArray, List.getElem_cons_zero, List.getElem_cons_succ, List.setIfInBounds_toArray, List.set_cons_zero, List.set_cons_succ]
  refine wpAnyH_take (i := 20) rfl (by kernel_rfl) (by kernel_rfl) (by kernel_rfl) (fun _ _ _ h => h) (yieldsIf_load_mid (by rfl) 57 _ rfl w.heap.size 0 rfl c.toList _ (fun W hSw => row_rangeV hSw.k3) Tryd.underlying57 rfl ?hi20g) (by assumption) ?rest20g
  case hi20g => exact HL3.out
  simp only [Act.put, List.getElem_toArray, List.getElem_cons_zero, List.getElem_cons_succ, List.setIfInBounds_toArray, List.set_cons_zero, List.set_cons_succ]
  refine wpAnyH_ready (rs := [19]) (by kernel_rfl) (by simp) ?_
  refine AllReadyH.cons (o := _) rfl (fun K hK => ?_) (AllReadyH.nil)
  simp only [List.getElem_toArray, List.getElem_cons_zero, List.getElem_cons_succ]
  try rw [if_pos (by rfl)]
  go_simp
  refine (HL1.out _).mono ?_
  rintro e wC0 ⟨rfl, hb⟩
  have hSC0 := hSB.below hb
  refine hK.out _ _ hSC0 (fun _ => ?_)
  clear hK K hb
  try simp only [Act.put, List.setIfInBounds_toArray, List.set_cons_zero, List.set_cons_succ]
  refine wpAnyH_ready (rs := [21]) (by kernel_rfl) (by simp) ?_
  refine AllReadyH.cons (o := _) rfl (fun K hK => ?_) (AllReadyH.nil)
  simp only [List.getElem_toArray, List.getElem_cons_zero, List.getElem_cons_succ]
  try rw [if_pos (by rfl)]
  go_simp
  refine (HL2.out _).mono ?_
  rintro e wC1 ⟨rfl, hb⟩
  have hSC := hSC0.below hb
  refine hK.out _ _ hSC (fun _ => ?_)
  clear hK K hb
  try simp only [Act.put, List.setIfInBounds_toArray, List.set_cons_zero, List.set_cons_succ]
  refine wpAnyH_take (i := 22) (v := ?v22) rfl (by kernel_rfl) (by kernel_rfl) (by kernel_rfl) (fun _ _ _ h => h) (Or.inl ⟨by rfl, ?hy22⟩) (by assumption) ?rest22
  case hy22 => (intro W hSw; go_simp; first | done | with_reducible rfl)
  simp only [Act.put, List.getElem_toArray, List.getElem_cons_zero, List.getElem_cons_succ, List.setIfInBounds_toArray, List.set_cons_zero, List.set_cons_succ]
  refine wpAnyH_take (i := 23) (v := ?v23) rfl (by kernel_rfl) (by kernel_rfl) (by kernel_rfl) (fun _ _ _ h => h) (Or.inl ⟨by rfl, ?hy23⟩) (by assumption) ?rest23
  case hy23 => (intro W hSw; go_simp; first | done | with_reducible rfl)
  simp only [Act.put, List.getElem_toArray, List.getElem_cons_zero, List.getElem_cons_succ, List.setIfInBounds_toArray, List.set_cons_zero, List.set_cons_succ]
  refine wpAnyH_take (i := 24) (v := ?v24) rfl (by kernel_rfl) (by kernel_rfl) (by kernel_rfl) (fun _ _ _ h => h) (Or.inl ⟨by rfl, ?hy24⟩) (by assumption) ?rest24
  case hy24 => (intro W hSw; go_simp; first | done | with_reducible rfl)
  simp only [Act.put, List.getElem_toArray, List.getElem_cons_zero, List.getElem_cons_succ, List.setIfInBounds_toArray, List.set_cons_zero, List.set_cons_succ]
  refine wpAnyH_take (i := 25) rfl (by kernel_rfl) (by kernel_rfl) (by kernel_rfl) (fun _ _ _ h => h) (yieldsIf_load_mid (by rfl) 63 _ rfl b7 0 rfl c.toList _ (fun W hSw => row_rangeV hSw.k7) Tryd.underlying63 rfl ?hi25g) (by assumption) ?rest25g
  case hi25g => exact HL7.out
  simp only [Act.put, List.getElem_toArray, List.getElem_cons_zero, List.getElem_cons_succ, List.setIfInBounds_toArray, List.set_cons_zero, List.set_cons_succ]
  refine wpAnyH_take (i := 27) rfl (by kernel_rfl) (by kernel_rfl) (by kernel_rfl) (fun _ _ _ h => h) (yieldsIf_load_mid (by rfl) 57 _ rfl w.heap.size 0 rfl c.toList _ (fun W hSw => row_rangeV hSw.k3) Tryd.underlying57 rfl ?hi27g) (by assumption) ?rest27g
  case hi27g => exact HL3.out
  simp only [Act.put, List.getElem_toArray, List.getElem_cons_zero, List.getElem_cons_succ, List.setIfInBounds_toArray, List.set_cons_zero, List.set_cons_succ]
  refine wpAnyH_ready (rs := [26]) (by kernel_rfl) (by simp) ?_
  refine AllReadyH.cons (o := _) rfl (fun K hK => ?_) (AllReadyH.nil)
  simp only [List.getElem_toArray, List.getElem_cons_zero, List.getElem_cons_succ]
  try rw [if_pos (by rfl)]
  go_simp
  refine (HF1.out _).mono ?_
  rintro e wD0 ⟨rfl, hb⟩
  have hSD0 := hSC.below hb
  refine hK.out _ _ hSD0 (fun _ => ?_)
  clear hK K hb
  try simp only [Act.put, List.setIfInBounds_toArray, List.set_cons_zero, List.set_cons_succ]
  refine wpAnyH_ready (rs := [28]) (by kernel_rfl) (by simp) ?_
  refine AllReadyH.cons (o := _) rfl (fun K hK => ?_) (AllReadyH.nil)
  simp only [List.getElem_toArray, List.getElem_cons_zero, List.getElem_cons_succ]
  try rw [if_pos (by rfl)]
  go_simp
  refine (HF2.out _).mono ?_
  rintro e wD1 ⟨rfl, hb⟩
  have hSD1 := hSD0.below hb
  refine hK.out _ _ hSD1 (fun _ => ?_)
  clear hK K hb
  try simp only [Act.put, List.setIfInBounds_toArray, List.set_cons_zero, List.set_cons_succ]
  refine wpAnyH_ready (rs := [29]) (by kernel_rfl) (by simp) ?_
  refine AllReadyH.cons (o := _) rfl (fun K hK => ?_) (AllReadyH.nil)
  simp only [List.getElem_toArray, List.getElem_cons_zero, List.getElem_cons_succ]
  try rw [if_pos (by rfl)]
  go_simp
  refine (HGF.out _).mono ?_
  rintro e wD2 ⟨rfl, hb⟩
  have hSD := hSD1.below hb
  refine hK.out _ _ hSD (fun _ => ?_)
  clear hK K hb
  try simp only [Act.put, List.setIfInBounds_toArray, List.set_cons_zero, List.set_cons_succ]
  refine wpAnyH_take (i := 30) rfl (by kernel_rfl) (by kernel_rfl) (by kernel_rfl) (fun _ _ _ h => h) (yieldsIf_bin (by rfl) BinOp.eql 63 _ _ _ rfl (.bool true) (.agg f) (.agg f) (by rfl) (by rfl) (fun W => vs_guard _ _ _ W) HEF.out) (by assumption) ?rest30
  simp only [Act.put, List.getElem_toArray, List.getElem_cons_zero, List.getElem_cons_succ, List.setIfInBounds_toArray, List.set_cons_zero, List.set_cons_succ]
  refine wpAnyH_take (i := 31) (v := ?v31) rfl (by kernel_rfl) (by kernel_rfl) (by kernel_rfl) (fun _ _ _ h => h) (Or.inl ⟨by rfl, ?hy31⟩) (by assumption) ?rest31
  case hy31 => (intro W hSw; go_simp; first | done | with_reducible rfl)
  simp only [Act.put, List.getElem_toArray, List.getElem_cons_zero, List.getElem_cons_succ, List.setIfInBounds_toArray, List.set_cons_zero, List.set_cons_succ]
  refine wpAnyH_take (i := 32) (v := ?v32) rfl (by kernel_rfl) (by kernel_rfl) (by kernel_rfl) (fun _ _ _ h => h) (Or.inl ⟨by rfl, ?hy32⟩) (by assumption) ?rest32
  case hy32 => (intro W hSw; go_simp; first | done | with_reducible rfl)
  simp only [Act.put, List.getElem_toArray, List.getElem_cons_zero, List.getElem_cons_succ, List.setIfInBounds_toArray, List.set_cons_zero, List.set_cons_succ]
  refine wpAnyH_take (i := 33) rfl (by kernel_rfl) (by kernel_rfl) (by kernel_rfl) (fun _ _ _ h => h) (yieldsIf_load_mid (by rfl) 63 _ rfl b7 0 rfl c.toList _ (fun W hSw => row_rangeV hSw.k7) Tryd.underlying63 rfl ?hi33g) (by assumption) ?rest33g
  case hi33g => exact HL7.out
  simp only [Act.put, List.getElem_toArray, List.getElem_cons_zero, List.getElem_cons_succ, List.setIfInBounds_toArray, List.set_cons_zero, List.set_cons_succ]
  refine wpAnyH_take (i := 35) rfl (by kernel_rfl) (by kernel_rfl) (by kernel_rfl) (fun _ _ _ h => h) (yieldsIf_load_mid (by rfl) 57 _ rfl w.heap.size 0 rfl c.toList _ (fun W hSw => row_rangeV hSw.k3) Tryd.underlying57 rfl ?hi35g) (by assumption) ?rest35g
  case hi35g => exact HL3.out
  simp only [Act.put, List.getElem_toArray, List.getElem_cons_zero, List.getElem_cons_succ, List.setIfInBounds_toArray, List.set_cons_zero, List.set_cons_succ]
  refine wpAnyH_ready (rs := [34]) (by kernel_rfl) (by simp) ?_
  refine AllReadyH.cons (o := _) rfl (fun K hK => ?_) (AllReadyH.nil)
  simp only [List.getElem_toArray, List.getElem_cons_zero, List.getElem_cons_succ]
  try rw [if_pos (by rfl)]
  go_simp
  refine (HU1.out _).mono ?_
  rintro e wE0 ⟨rfl, hb⟩
  have hSE0 := hSD.below hb
  refine hK.out _ _ hSE0 (fun _ => ?_)
  clear hK K hb
  try simp only [Act.put, List.setIfInBounds_toArray, List.set_cons_zero, List.set_cons_succ]
  refine wpAnyH_ready (rs := [36]) (by kernel_rfl) (by simp) ?_
  refine AllReadyH.cons (o := _) rfl (fun K hK => ?_) (AllReadyH.nil)
  simp only [List.getElem_toArray, List.getElem_cons_zero, List.getElem_cons_succ]
  try rw [if_pos (by rfl)]
  go_simp
  refine (HU2.out _).mono ?_
  rintro e wE1 ⟨rfl, hb⟩
  have hSE1 := hSE0.below hb
  refine hK.out _ _ hSE1 (fun _ => ?_)
  clear hK K hb
  try simp only [Act.put, List.setIfInBounds_toArray, List.set_cons_zero, List.set_cons_succ]
  refine wpAnyH_ready (rs := [37]) (by kernel_rfl) (by simp) ?_
  refine AllReadyH.cons (o := _) rfl (fun K hK => ?_) (AllReadyH.nil)
  simp only [List.getElem_toArray, List.getElem_cons_zero, List.getElem_cons_succ]
  try rw [if_pos (by rfl)]
  go_simp
  refine (HGU.out _).mono ?_
  rintro e wE2 ⟨rfl, hb⟩
  have hSE := hSE1.below hb
  refine hK.out _ _ hSE (fun _ => ?_)
  clear hK K hb
  try simp only [Act.put, List.setIfInBounds_toArray, List.set_cons_zero, List.set_cons_succ]
  refine wpAnyH_take (i := 38) rfl (by kernel_rfl) (by kernel_rfl) (by kernel_rfl) (fun _ _ _ h => h) (yieldsIf_bin (by rfl) BinOp.eql 63 _ _ _ rfl (.bool true) (.agg u) (.agg u) (by rfl) (by rfl) (fun W => vs_guard _ _ _ W) HEU.out) (by assumption) ?rest38
  simp only [Act.put, List.getElem_toArray, List.getElem_cons_zero, List.getElem_cons_succ, List.setIfInBounds_toArray, List.set_cons_zero, List.set_cons_succ]
  refine wpAnyH_take (i := 39) (v := ?v39) rfl (by kernel_rfl) (by kernel_rfl) (by kernel_rfl) (fun _ _ _ h => h) (Or.inl ⟨by rfl, ?hy39⟩) (by assumption) ?rest39
  case hy39 => (intro W hSw; go_simp; first | done | with_reducible rfl)
  simp only [Act.put, List.getElem_toArray, List.getElem_cons_zero, List.getElem_cons_succ, List.setIfInBounds_toArray, List.set_cons_zero, List.set_cons_succ]
  refine wpAnyH_take (i := 40) (v := ?v40) rfl (by kernel_rfl) (by kernel_rfl) (by kernel_rfl) (fun _ _ _ h => h) (Or.inl ⟨by rfl, ?hy40⟩) (by assumption) ?rest40
  case hy40 => (intro W hSw; go_simp; first | done | with_reducible rfl)
  simp only [Act.put, List.getElem_toArray, List.getElem_cons_zero, List.getElem_cons_succ, List.setIfInBounds_toArray, List.set_cons_zero, List.set_cons_succ]
  refine wpAnyH_ready (rs := [41]) (by kernel_rfl) (by simp) ?_
  refine AllReadyH.cons (o := _) rfl (fun K hK => ?_) (AllReadyH.nil)
  simp only [List.getElem_toArray, List.getElem_cons_zero, List.getElem_cons_succ]
  try rw [if_pos (by rfl)]
  go_simp
  refine (HSU.out _).mono ?_
  rintro e wZ ⟨rfl, hb⟩
  have hSZ := hSE.below hb
  refine hK.out _ _ hSZ (fun _ => ?_)
  clear hK K hb
  try simp only [Act.put, List.setIfInBounds_toArray, List.set_cons_zero, List.set_cons_succ]
  refine wpAnyH_take (i := 42) (v := ?v42) rfl (by kernel_rfl) (by kernel_rfl) (by kernel_rfl) (fun _ _ _ h => h) (Or.inl ⟨by rfl, ?hy42⟩) (by assumption) ?rest42
  case hy42 => (intro W hSw; go_simp; first | done | with_reducible rfl)
  simp only [Act.put, List.getElem_toArray, List.getElem_cons_zero, List.getElem_cons_succ, List.setIfInBounds_toArray, List.set_cons_zero, List.set_cons_succ]
  refine wpAnyH_take (i := 43) (v := ?v43) rfl (by kernel_rfl) (by kernel_rfl) (by kernel_rfl) (fun _ _ _ h => h) (Or.inl ⟨by rfl, ?hy43⟩) (by assumption) ?rest43
  case hy43 => (intro W hSw; go_simp; first | done | with_reducible rfl)
  simp only [Act.put, List.getElem_toArray, List.getElem_cons_zero, List.getElem_cons_succ, List.setIfInBounds_toArray, List.set_cons_zero, List.set_cons_succ]
  refine wpAnyH_done (by kernel_rfl) ?_ _
  have HFR := Lib.hid hSZ.fr
  clear hSZ
  go_wp2_with fail
  go_ret
  exact ⟨rfl, HFR.out⟩
theorem law_VirtioReads (s : VS) (hs : s.wf) (id a : Nat) (w : World) (he : ErrAt w) :
    Calls Tryd.prog 4 #[.agg s.c, .int .u32 id, .int .u32 a] w fun e w' => e = .returned (.bool true) ∧ Below w.heap.size w w' :=
  vreads_row s.c s.fail.c s.used.c (vread s id a) (badN s a) (if s.ok then 0 else 1) id a (decide s.live) w rfl s.c_one he
    (Lib.hid (give_port s)) (Lib.hid (give_port s.fail)) (Lib.hid (give_port s.used))
    (Lib.hid fun W => vs_Read s hs.hst id a W) (Lib.hid fun W => ref14_Read s hs.hst id a W) (Lib.hid fun W => vs_Check s hs.hst W) (Lib.hid fun W => ref14_Check s hs.hst W)
    (Lib.hid fun W => vs_Live s hs.hst W) (Lib.hid fun W => ref14_Live s hs.hst W) (Lib.hid fun W => vs_Fail s hs.hst hs.hirq W) (Lib.hid fun W => ref14_Fail s hs.hst hs.hirq W)
    (Lib.hid fun W => vs_Used s hs.hirq W) (Lib.hid fun W => ref14_Used s hs.hirq W) (Lib.hid fun W => vs_eql s.fail W) (Lib.hid fun W => vs_eql s.used W)
end Go.Proofs.YtcbjlpkkebcmjaaDoor
