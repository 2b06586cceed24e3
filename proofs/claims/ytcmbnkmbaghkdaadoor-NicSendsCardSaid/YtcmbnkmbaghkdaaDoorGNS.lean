/-
Two arrays of two words compared by ==.
No condition.
Two states of nic that are the same are equal by ==.
No condition.
pinnacelaw16.NicSends, walked: it answers true.
Condition: the table of regions of package bus reads as its text lays it.
-/
import Derived.Test.YtcmbnkmbaghkdaaDoorVio
import Derived.Test.YtcmbnkmbaghkdaaDoorNic
import Derived.Test.YtcmbnkmbaghkdaaDoorRef16S
import Derived.Test.YtcmbnkmbaghkdaaDoorNicSendAll
import Derived.Test.YtcmbnkmbaghkdaaDoorSure16
import Derived.Test.YtcmbnkmbaghkdaaDoorGiveNic
import Derived.Test.YtcmbnkmbaghkdaaDoorLawKitB
import Derived.Deep.CutRange
namespace Go.Proofs.YtcmbnkmbaghkdaaDoor
open Go.RowKit

theorem vio_info_u32 : (Tryd.prog.info? 25).isSome = true := by kernel_rfl
theorem vio_cells_u32 : Tryd.prog.cellsOf 25 = 1 := by kernel_rfl
theorem arr2_eq (n a b c d : Nat) (w : World) : (Op.equalIn (n + 2) 49 (.agg #[.int .u32 a, .int .u32 b]) (.agg #[.int .u32 c, .int .u32 d])).run Tryd.prog w = .ok (decide (a = c) && decide (b = d)) w := by
  obtain ⟨i, hi⟩ := Option.isSome_iff_exists.1 vio_info_u32
  rw [run_equalIn_array (P := Tryd.prog) w (n + 1) _ _ Tryd.underlying49 hi, vio_cells_u32]
  have r2 : List.range 2 = [0, 1] := rfl
  rw [r2]
  have hu := Tryd.underlying25
  by_cases h1 : a = c
  · by_cases h2 : b = d
    · simp [Op.eqItems, part, go_sem, hu, h1, h2]
    · have h3 : ¬ (b : Int) = (d : Int) := by omega
      simp [Op.eqItems, part, go_sem, hu, h1, h2]
      omega
  · have h3 : ¬ (a : Int) = (c : Int) := by omega
    simp [Op.eqItems, part, go_sem, hu, h1]
    omega
end Go.Proofs.YtcmbnkmbaghkdaaDoor
namespace Go.Proofs.YtcmbnkmbaghkdaaDoor
open Go.RowKit
theorem nvio_info_q : (Tryd.prog.info? 70).isSome = true := by kernel_rfl
theorem nvio_cells_q : Tryd.prog.cellsOf 70 = 7 := by kernel_rfl
def VQ.vs2 (a b : VQ) : Array Value := #[.bool a.rdy, .int .i64 a.size, .int .u32 a.de, .int .u32 a.av, .int .u32 a.us, .int .u16 a.la, .int .u16 a.pu, .bool b.rdy, .int .i64 b.size, .int .u32 b.de, .int .u32 b.av, .int .u32 b.us, .int .u16 b.la, .int .u16 b.pu]
set_option maxRecDepth 100000 in
theorem arr_q_at (m : Nat) (a b : VQ) (w : World) : (Op.equalIn (m + 4) 71 (.agg (VQ.vs2 a b)) (.agg (VQ.vs2 a b))).run Tryd.prog w = .ok true w := by
  obtain ⟨i, hi⟩ := Option.isSome_iff_exists.1 nvio_info_q
  rw [run_equalIn_array (P := Tryd.prog) w (m + 3) _ _ Tryd.underlying71 hi, nvio_cells_q]
  have r2 : List.range 2 = [0, 1] := rfl
  rw [r2]
  have h1 := Tryd.underlying70
  have h2 := Tryd.underlying68
  have h3 := Tryd.underlying25
  have h4 := Tryd.underlying50
  have h5 := Tryd.underlying4
  have h6 := Tryd.underlying3
  unfold VQ.vs2
  simp [Op.eqItems, part, go_sem, h1, h2, h3, h4, h5, h6]
set_option maxRecDepth 100000 in
set_option maxHeartbeats 1000000 in
theorem vs_equalAt (m : Nat) (s : VS) (w : World) : (Op.equalIn (m + 4 + 1) 73 (.agg s.c) (.agg s.c)).run Tryd.prog w = .ok true w := by
  have h1 : (Op.equalIn (m + 4) 49 (.agg #[.int .u32 s.d0, .int .u32 s.d1]) (.agg #[.int .u32 s.d0, .int .u32 s.d1])).run Tryd.prog w = .ok true w := (arr2_eq (m + 2) s.d0 s.d1 s.d0 s.d1 w).trans (by simp)
  have h2 := arr_q_at m s.a s.b w
  unfold VQ.vs2 at h2
  have h3 : ∀ x : Nat, (Op.equalIn (m + 4) 25 (.int .u32 x) (.int .u32 x)).run Tryd.prog w = .ok true w := fun x => by
    show (Op.equalIn (m + 3 + 1) 25 (.int .u32 x) (.int .u32 x)).run Tryd.prog w = .ok true w
    generalize m + 3 = d
    simp [Op.equalIn, go_sem]
  unfold VS.c
  generalize m + 4 = d at h1 h2 h3 ⊢
  simp [Op.equalIn, part, go_sem, h1, h2, h3]
set_option maxRecDepth 100000 in
set_option maxHeartbeats 1000000 in
theorem ns_equalAt (m : Nat) (s : NS) (w : World) : (Op.equalIn (m + 4 + 1 + 1) 75 (.agg s.c) (.agg s.c)).run Tryd.prog w = .ok true w := by
  have h1 := vs_equalAt m s.p w
  have h3 : (Op.equalIn (m + 4 + 1) 25 (.int .u32 s.lost) (.int .u32 s.lost)).run Tryd.prog w = .ok true w := by
    generalize m + 4 = d
    simp [Op.equalIn, go_sem]
  have h4 : (Op.equalIn (m + 4 + 1) 4 (.bool s.bell) (.bool s.bell)).run Tryd.prog w = .ok true w := by
    generalize m + 4 = d
    simp [Op.equalIn, go_sem]
  unfold VS.c at h1
  unfold NS.c
  generalize m + 4 + 1 = d at h1 h3 h4 ⊢
  simp [Op.equalIn, part, go_sem, h1, h3, h4]
set_option maxRecDepth 100000 in
set_option maxHeartbeats 1000000 in
theorem ns_neq (s : NS) (w : World) : (binOp BinOp.neq 75 (.agg s.c) (.agg s.c)).run Tryd.prog w = .ok (.bool false) w := by
  have h2 : (Op.equalIn Op.maxDepth 75 (.agg s.c) (.agg s.c)).run Tryd.prog w = .ok true w := ns_equalAt 9994 s w
  simp [binOp, Op.equal, go_sem, h2]
theorem ns_guard (x y : Operand) (f : Array Value) (w : World) : (eqGuard BinOp.neq 75 x y (.agg f) (.agg f)).run Tryd.prog w = .ok () w := by
  simp [eqGuard, go_sem]
end Go.Proofs.YtcmbnkmbaghkdaaDoor
namespace Go.Proofs.YtcmbnkmbaghkdaaDoor
open Go.RowKit
set_option linter.unusedVariables false

theorem sendF_n : ∀ (k : Nat) (s : NS) (m : Mm) (acc : List (List UInt8)), (sendF k s m acc).2.1.n = m.n
  | 0, s, m, acc => rfl
  | k + 1, s, m, acc => by
    have rg : ∀ (q : Rg) (m : Mm) (hd n : Nat), (rgive q m hd n).2.n = m.n := fun q m hd n => by
      unfold rgive
      simp only
      cases e1 : rstore m ((q.us + 4 + 8 * (q.pu % q.size.toNat)) % 4294967296) 4 hd with
      | none => rfl
      | some m1 =>
        simp only
        cases e2 : rstore m1 (((q.us + 4 + 8 * (q.pu % q.size.toNat)) % 4294967296 + 4) % 4294967296) 4 n with
        | none => exact rstore_n e1
        | some m2 =>
          simp only
          cases e3 : rstore m2 ((q.us + 2) % 4294967296) 2 ((q.pu + 1) % 65536) with
          | none => exact (rstore_n e2).trans (rstore_n e1)
          | some m3 => exact (rstore_n e3).trans ((rstore_n e2).trans (rstore_n e1))
    unfold sendF
    cases rnext s.p.b.rg m with
    | none => rfl
    | some x =>
      cases x with
      | none => rfl
      | some hd =>
        simp only
        cases rwalk s.p.b.de s.p.b.size.toNat m hd with
        | none => rfl
        | some l =>
          simp only
          split
          · rfl
          · split
            · rw [sendF_n k]; exact rg _ _ _ _
            · exact rg _ _ _ _
theorem sendF_len : ∀ (k : Nat) (s : NS) (m : Mm) (acc : List (List UInt8)), (sendF k s m acc).2.2.length ≤ acc.length + k
  | 0, s, m, acc => Nat.le_refl _
  | k + 1, s, m, acc => by
    unfold sendF
    cases rnext s.p.b.rg m with
    | none => exact Nat.le_add_right _ _
    | some x =>
      cases x with
      | none => exact Nat.le_add_right _ _
      | some hd =>
        simp only
        cases rwalk s.p.b.de s.p.b.size.toNat m hd with
        | none => exact Nat.le_add_right _ _
        | some l =>
          simp only
          split
          · exact Nat.le_add_right _ _
          · split
            · refine Nat.le_trans (sendF_len k _ _ _) ?_
              rw [List.length_append, List.length_singleton]
              omega
            · simp
theorem nsend_len (s : NS) (m : Mm) : (nsend s m).2.2.length ≤ 4 := by
  unfold nsend
  split
  · exact sendF_len 4 s m []
  · simp
theorem nsend_n (s : NS) (m : Mm) : (nsend s m).2.1.n = m.n := by
  unfold nsend
  split
  · exact sendF_n _ _ _ _
  · rfl
theorem RefF.stepOr {W W' : World} {B : Nat} {v : Value} {m : Mm} {F F' X : Nat → Prop} (h : RefF W B v m (fun k => F k ∨ X k)) (hs : MemStep F F' W W') : RefF W' B v m (fun k => F' k ∨ X k) := by
  obtain ⟨n1, n2, b1, c1, b2, c2, he, g1, g2, g3, g4, r1, r2⟩ := h
  exact ⟨n1, n2, b1, c1, b2, c2, he, g1, g2, fun hj => hj.elim (fun hf => hs.off r1.lt (fun h => g3 (.inl h)) hf) (fun hx => g3 (.inr hx)), fun hj => hj.elim (fun hf => hs.off r2.lt (fun h => g4 (.inl h)) hf) (fun hx => g4 (.inr hx)), r1.step hs (fun h => g3 (.inl h)), r2.step hs (fun h => g4 (.inl h))⟩
theorem RefF.cells_no {W : World} {B : Nat} {C : Array Value} {m : Mm} {F : Nat → Prop} (h : RefF W B (.agg C) m F) (i : Nat) (y : UInt8) : C[i]? ≠ some (B8 y) := by
  obtain ⟨n1, n2, b1, c1, b2, c2, ⟨he, _⟩, _⟩ := h
  obtain rfl : C = _ := by simpa using he
  match i with
  | 0 => simp [refC, B8]
  | 1 => simp [refC, B8]
  | 2 => simp [refC, B8]
  | i + 3 => simp [refC]
/-- Frames that lie in memory, by their slices; an empty one lies nowhere. -/
def FrB (W : World) (vs : List Value) (acc : List (List UInt8)) (P : Nat → Prop) : Prop := ∀ (k : Nat) (x : List UInt8), acc[k]? = some x → ∃ (ao : Option Addr) (cap : Nat), vs[k]? = some (Value.slice ao x.length cap) ∧ BytesAt W ao x P
theorem Fr.toB {W : World} {vs : List Value} {acc : List (List UInt8)} {P : Nat → Prop} (h : Fr W vs acc P) : FrB W vs acc P := fun k x hk => by
  obtain ⟨b, o, cap, h1, _, h3, h4, h5⟩ := h k x hk
  exact ⟨_, cap, h1, fun _ => ⟨b, o, rfl, h3, h4, h5⟩⟩
theorem FrB.keep {W W' : World} {vs : List Value} {acc : List (List UInt8)} {P P' : Nat → Prop} (h : FrB W vs acc P) (hs : W.heap.size ≤ W'.heap.size) (he : ∀ k, k < W.heap.size → ¬ P k → W'.heap[k]? = W.heap[k]?) (hp : ∀ k, k < W.heap.size → P' k → P k) : FrB W' vs acc P' := fun k x hk => by
  obtain ⟨ao, cap, h1, h2⟩ := h k x hk
  refine ⟨ao, cap, h1, fun hne => ?_⟩
  obtain ⟨b, o, ha, h3, h4, h5⟩ := h2 hne
  exact ⟨b, o, ha, Nat.lt_of_lt_of_le h3 hs, fun hq => h4 (hp b h3 hq), fun j y hj => (World.cell?_of_block (w := W) (a := ⟨b, o + j, none⟩) (he b h3 h4)).trans (h5 j y hj)⟩
theorem FrB.below {W W' : World} {vs : List Value} {acc : List (List UInt8)} {P : Nat → Prop} (h : FrB W vs acc P) (hb : Below W.heap.size W W') : FrB W' vs acc P := h.keep hb.size (fun k hk _ => hb.block k hk) (fun _ _ h => h)
theorem FrB.off {W : World} {vs : List Value} {acc : List (List UInt8)} {P : Nat → Prop} {br : Nat} {C : Array Value} {t : TypeId} {fr : Nat × Nat} (h : FrB W vs acc P) (hk : W.heap[br]? = some (.cells C t fr)) (hC : ∀ (i : Nat) (y : UInt8), C[i]? ≠ some (B8 y)) : FrB W vs acc (fun k => P k ∨ k = br) := fun k x hx => by
  obtain ⟨ao, cap, h1, h2⟩ := h k x hx
  refine ⟨ao, cap, h1, fun hne => ?_⟩
  obtain ⟨b, o, ha, h3, h4, h5⟩ := h2 hne
  refine ⟨b, o, ha, h3, fun hq => hq.elim h4 (fun e => ?_), h5⟩
  subst e
  cases x with
  | nil => exact hne rfl
  | cons y l => exact hC _ y ((cell_of_row _ _ _ _ _ _ hk).symm.trans (h5 0 y rfl))
theorem BytesAt.belowS {w W : World} {ao : Option Addr} {l : List UInt8} {F : Nat → Prop} (h : BytesAt w ao l F) (hb : Below w.heap.size w W) : BytesAt W ao l F := fun hne => by
  obtain ⟨b, o, h1, h2, h3, h4⟩ := h hne
  exact ⟨b, o, h1, Nat.lt_of_lt_of_le h2 hb.size, h3, fun j x hj => (hb.cell (p := ⟨b, o + j, none⟩) h2).trans (h4 j x hj)⟩
theorem yieldsIf_binS {P : Program} {ops : Array Oper} {S : World → Prop} {op : Oper} {a : Act} (hw : Region.wanted op (yielded ops a.tmps) = true) (b : BinOp) (t : TypeId) (x y : Operand) (t2 : TypeId) (ho : op.op = .binOp b t x y t2) (v vx vy : Value) (hx : a.eval x = vx) (hy : a.eval y = vy)
    (hg : ∀ w, (eqGuard b t x y vx vy).run P w = .ok () w) (h : ∀ w, (binOp b t vx vy).run P w = .ok v w) : YieldsIf P ops S op v a :=
  .inl ⟨hw, fun w _ => by
    subst hx hy
    unfold execOp
    simp only [ho, Sem.run_bind, Sem.run_pure, h, hg, Result.andThen_ok]⟩
set_option maxRecDepth 100000 in
theorem err_nil_neq (w : World) : (binOp BinOp.neq 34 .nilIface .nilIface).run Tryd.prog w = .ok (.bool false) w := by
  have h1 : (Op.equalIn (9999 + 1) 34 .nilIface .nilIface).run Tryd.prog w = .ok true w := by
    generalize 9999 = d
    simp [Op.equalIn, go_sem]
  have h2 : (Op.equalIn Op.maxDepth 34 .nilIface .nilIface).run Tryd.prog w = .ok true w := h1
  simp [binOp, Op.equal, go_sem, h2]
theorem err_guard_neq (x : Operand) (w : World) : (eqGuard BinOp.neq 34 x (.const .nilIface) .nilIface .nilIface).run Tryd.prog w = .ok () w := by
  simp [eqGuard, go_sem]
/-- What lies in a row of frames, place by place. -/
theorem frame_at {W : World} {base n : Nat} {av : Option Addr} {cv : Nat} {vs : List Value} {acc : List (List UInt8)} {P : Nat → Prop} (ho : W.ownsRow base 62 1 (.slice av n cv) n vs) (hf : FrB W vs acc P) {k : Nat} {x : List UInt8} (hk : acc[k]? = some x) (hkn : k < n) :
    ∃ (gb : Nat) (ao : Option Addr) (cap : Nat), av = some ⟨gb, 0, none⟩ ∧ gb < W.heap.size ∧ W.cell? ⟨gb, k, none⟩ = some (.slice ao x.length cap) ∧ BytesAt W ao x P := by
  obtain ⟨ao, cap, h1, h2⟩ := hf k x hk
  rcases ho.2 with ⟨he, h0⟩ | ⟨gb, c, cur, he, _, hh, _⟩
  · omega
  · obtain ⟨rfl, rfl⟩ : av = some ⟨gb, 0, none⟩ ∧ cv = c := by simpa using he
    exact ⟨gb, ao, cap, rfl, lt_heap hh, by rw [ho.cellAt k (by omega)]; exact h1, h2⟩
set_option maxRecDepth 100000 in
set_option maxHeartbeats 16000000 in
theorem law_NicSends (s : NS) (hs : s.wf) (pw : Option Addr) (lw : List (Nat × Nat)) (cw : Nat) (w : World) (HP : PairsL w pw lw) (hmax : lw.length ≤ maxLen) (hr : RegAt w) :
    Calls Tryd.prog 4 #[.agg s.c, .slice pw lw.length cw] w fun e w' => e = .returned (.bool true) ∧ Below w.heap.size w w' := by
  have HRG := Lib.hid hr
  have K0 := Lib.hid (heap_alloc_new w (.cells s.c 59))
  have HB0 := Lib.hid ((Below.refl w.heap.size w).alloc (Nat.le_refl _) (.cells s.c 59))
  have HBT := Lib.hid (both_ok pw lw cw (w.alloc (.cells s.c 59)) (HP.below HB0.out) hmax)
  have HS := Lib.hid hs
  have HL0 := Lib.hid (show w.heap.size < (w.alloc (.cells s.c 59)).heap.size by simp)
  have HMN := Lib.hid (layL_n (lw.take 80))
  clear hr HP hmax hs
  go_enter Tryd.func4, Tryd.ntmps4
  go_upto_region 1 with fail
  change Code.wp _ _ _ _ (w.alloc (.cells s.c 59))
  generalize w.alloc (.cells s.c 59) = w1 at K0 HB0 HBT HL0 ⊢
  generalize layL (lw.take 80) = m at HBT HMN
  go_wp2_with fail
  refine (HBT.out).mono ?_
  rintro e w2 ⟨g, F2, v, rfl, hlm, hrf⟩
  have L2 := Lib.hid (hlm.back HB0.out)
  have KS2 := Lib.hid (keepB K0.out hlm.fr)
  have HNS := Lib.hid (show ¬ F2 w.heap.size from fun hf => by have := hlm.lo _ hf; have := HL0.out; omega)
  have HBW := Lib.hid (Nat.le_trans hlm.fr.size (Nat.le_refl _))
  obtain ⟨C, rfl, hCs, hC1⟩ := hrf.form
  have HCS := Lib.hid (And.intro hCs hC1)
  have HIC := Lib.hid (ram06_size hCs)
  have R2 := Lib.hid (hrf.new (Nat.le_refl w2.heap.size))
  clear hlm hrf hCs hC1 HBT K0
  have K3 := Lib.hid (heap_alloc_new w2 (.cells #[(.slice none 0 0 : Value), .slice none 0 0, .int .i64 0] 65))
  have HBA := Lib.hid ((Below.refl w2.heap.size w2).alloc (Nat.le_refl _) (.cells #[(.slice none 0 0 : Value), .slice none 0 0, .int .i64 0] 65))
  have HNB := Lib.hid (And.intro (show ¬ F2 w2.heap.size from fun hf => absurd (L2.out.ram.lt _ hf) (Nat.lt_irrefl _)) (And.intro L2.out.fr.size (lt_heap KS2.out)))
  go_wp2_with (refine wpList_store_to rfl 65 _ _ rfl w2.heap.size C rfl rfl 65 #[(.slice none 0 0 : Value), .slice none 0 0, .int .i64 0] K3.out HIC.out (by rw [HCS.out.1]; rfl) HCS.out.2 ?_)
  intro w4 hx hk
  have hb : Below w2.heap.size w2 w4 := HBA.out.trans (hx.out.below (fun k hk e => by omega) (by simp))
  have L4 := Lib.hid (L2.out.below hb)
  have KS4 := Lib.hid (keepB KS2.out hb)
  have KR4 := Lib.hid hk
  have R4 := Lib.hid (R2.out.below hb)
  clear hx hk hb K3 HBA L2 KS2 R2
  generalize w2.heap.size = br at HNB KR4 R4 HBW ⊢
  have HG := Lib.hid (give_nic s)
  go_wp2_with (refine wpList_load_row rfl 59 _ rfl w.heap.size rfl 59 s.c (0, 0) _ KS4.out Tryd.underlying59 rfl (nic16_size _) ?_)
  refine (HG.out _).mono ?_
  rintro e w5 ⟨rfl, hb⟩
  have L5 := Lib.hid (L4.out.below hb)
  have KS5 := Lib.hid (keepB KS4.out hb)
  have KR5 := Lib.hid (keepB KR4.out hb)
  have R5 := Lib.hid (R4.out.below hb)
  clear hb L4 KS4 KR4 R4 HG
  have HSD := Lib.hid (nic_Send s HS.out.p L5.out.ram (L5.out.regs HRG.out).1 (L5.out.regs HRG.out).2)
  have HRN := Lib.hid (nsend_n s m)
  have HR4 := Lib.hid (nsend_len s m)
  have HR16 := Lib.hid (fun W G (v : Value) (B : Nat) (h : RefF W B v m G) hF hB => ref16_Send s HS.out.p h hF hB)
  generalize nsend s m = R at HSD HRN HR4 HR16
  obtain ⟨t, m2, A⟩ := R
  go_wp2_with fail
  refine (HSD.out).mono ?_
  rintro e w6 ⟨fv, vs, F6, rfl, h1, h2, h3, h4, h5, h6⟩
  obtain ⟨av, cv, rfl⟩ := ownsRow_form h3
  have L6 := Lib.hid (L5.out.step h1 h2)
  have KS6 := Lib.hid (h2.heap KS5.out HNS.out)
  have KR6 := Lib.hid (h2.heap KR5.out HNB.out.1)
  have R6 := Lib.hid (R5.out.stepOr h2)
  have HN6 := Lib.hid (And.intro (h2.off (lt_heap KS5.out) HNS.out) (h2.off (lt_heap KR5.out) HNB.out.1))
  have OW6 := Lib.hid h3
  have HLA := Lib.hid (show A.length = vs.length from h4)
  have HNO := Lib.hid h5
  have FA6 := Lib.hid (Fr.toB h6)
  have HLO := Lib.hid (lt_heap KR5.out)
  clear h1 h2 h3 h4 h5 h6 HSD L5 KS5 KR5 R5
  have K7 := Lib.hid (heap_alloc_new w6 (.cells NS.zero.c 75))
  have HBA := Lib.hid ((Below.refl w6.heap.size w6).alloc (Nat.le_refl _) (.cells NS.zero.c 75))
  have HTO := Lib.hid t.c_one
  go_wp2_with (refine wpList_store_to rfl 75 _ _ rfl w6.heap.size t.c rfl rfl 75 NS.zero.c K7.out (nic_size _) rfl HTO.out ?_)
  intro w7 hx hk
  have hb : Below w6.heap.size w6 w7 := HBA.out.trans (hx.out.below (fun k hk e => by omega) (by simp))
  have L7 := Lib.hid (L6.out.below hb)
  have KS7 := Lib.hid (keepB KS6.out hb)
  have KR7 := Lib.hid (keepB KR6.out hb)
  have R7 := Lib.hid (R6.out.below hb)
  have OW7 := Lib.hid (ownsRow_keep OW6.out (fun q hq => hb.block q (ownsRow_lt OW6.out hq).2))
  have FA7 := Lib.hid (FA6.out.below hb)
  have KN7 := Lib.hid hk
  have HNN := Lib.hid (And.intro (show ¬ F6 w6.heap.size from fun hf => absurd (L6.out.ram.lt _ hf) (Nat.lt_irrefl _)) (And.intro (lt_heap KR6.out) (lt_heap hk)))
  have HOB := Lib.hid (fun q hq => (ownsRow_lt OW6.out (b := q) hq))
  clear hx hk hb K7 HBA L6 KS6 KR6 R6 OW6 FA6
  generalize w6.heap.size = bn at HNN KN7 HOB ⊢
  have HS16 := Lib.hid (HR16.out w7 (fun k => F6 k ∨ k = br) _ _ R7.out (fun k hk => hk.elim (L7.out.ram.lt k) (fun e => by have := HNN.out; omega)) (by have h1 := HBW.out; have h2 := HNN.out; omega))
  have HWR := Lib.hid (show w.heap.size ≤ br from HNB.out.2.1)
  have HF7 := Lib.hid L7.out.ram.lt
  go_wp2_with (first | go_skip | (refine wpList_load_row rfl 59 _ rfl w.heap.size rfl 59 s.c (0, 0) _ KS7.out Tryd.underlying59 rfl (nic16_size _) ?_) | (refine wpList_load_row rfl 65 _ rfl br rfl 65 C (0, 0) _ KR7.out Tryd.underlying65 rfl HIC.out ?_))
  refine (HS16.out).mono ?_
  rintro e w8 ⟨v', fv2, vs2, rfl, h1, hb, h3, h4, h5⟩
  obtain ⟨av2, cv2, rfl⟩ := ownsRow_form h3
  obtain ⟨C2, rfl, hCs, hC1⟩ := h1.form
  have HC2 := Lib.hid (And.intro hCs hC1)
  have HIC2 := Lib.hid (ram06_size hCs)
  have L8 := Lib.hid (L7.out.below hb)
  have KR8 := Lib.hid (keepB KR7.out hb)
  have KN8 := Lib.hid (keepB KN7.out hb)
  have R8 := Lib.hid h1
  have OW8 := Lib.hid (ownsRow_keep OW7.out (fun q hq => hb.block q (ownsRow_lt OW7.out hq).2))
  have FA8 := Lib.hid (FA7.out.below hb)
  have OX8 := Lib.hid h3
  have HLB := Lib.hid (show A.length = vs2.length from h4)
  have FB8 := Lib.hid (Fr.toB h5)
  have HCN := Lib.hid (R7.out.cells_no)
  have HW78 := Lib.hid (And.intro hb.size (lt_heap KN7.out))
  clear hCs hC1 h1 hb h3 h4 h5 HS16 L7 KS7 KR7 R7 OW7 FA7 KN7 HR16
  have K9 := Lib.hid (heap_alloc_new w8 (.cells NS.zero.c 59))
  have HBA := Lib.hid ((Below.refl w8.heap.size w8).alloc (Nat.le_refl _) (.cells NS.zero.c 59))
  go_wp2_with (refine wpList_store_to rfl 59 _ _ rfl w8.heap.size t.c rfl rfl 59 NS.zero.c K9.out (nic16_size _) rfl HTO.out ?_)
  intro w9 hx hk
  have hb : Below w8.heap.size w8 w9 := HBA.out.trans (hx.out.below (fun k hk e => by omega) (by simp))
  have L9 := Lib.hid (L8.out.below hb)
  have KR9 := Lib.hid (keepB KR8.out hb)
  have KN9 := Lib.hid (keepB KN8.out hb)
  have KT9 := Lib.hid hk
  have R9 := Lib.hid (R8.out.below hb)
  have OW9 := Lib.hid (ownsRow_keep OW8.out (fun q hq => hb.block q (ownsRow_lt OW8.out hq).2))
  have OX9 := Lib.hid (ownsRow_keep OX8.out (fun q hq => hb.block q (ownsRow_lt OX8.out hq).2))
  have FA9 := Lib.hid ((FA8.out.below hb).off (keepB KR8.out hb) HCN.out)
  have FB9 := Lib.hid (FB8.out.below hb)
  have HNT := Lib.hid (And.intro (show ¬ F6 w8.heap.size from fun hf => absurd (L8.out.ram.lt _ hf) (Nat.lt_irrefl _)) (lt_heap KR8.out))
  clear hx hk hb K9 HBA L8 KR8 KN8 R8 OW8 OX8 FA8 FB8
  generalize w8.heap.size = bt at HNT KT9 HW78 ⊢
  go_wp2_with (refine wpList_store_to rfl 65 _ _ rfl br C2 rfl rfl 65 C KR9.out HIC2.out (by rw [HC2.out.1, HCS.out.1]) HC2.out.2 ?_)
  intro wa hx hk
  have La := Lib.hid (L9.out.own hx.out HWR.out HN6.out.2)
  have KRa := Lib.hid hk
  have KNa := Lib.hid (hx.out.heap KN9.out (by have := HNN.out; omega))
  have KTa := Lib.hid (hx.out.heap KT9.out (by have := HNT.out; omega))
  have Ra := Lib.hid (R9.out.kx hx.out (fun k e => .inl (.inr e)))
  have OWa := Lib.hid (ownsRow_keep OW9.out (fun q hq => hx.out.block q (ownsRow_lt OW9.out hq).2 (by have h1 := (HOB.out q hq).1; have h2 := HLO.out; omega)))
  have OXa := Lib.hid (ownsRow_keep OX9.out (fun q hq => hx.out.block q (ownsRow_lt OX9.out hq).2 (by have h1 := (ownsRow_lt OX9.out hq).1; have h2 := HW78.out; have h3 := HNN.out; omega)))
  have FAa := Lib.hid (FA9.out.keep (P' := fun k => F6 k ∨ k = br) hx.out.size (fun k hk hp => hx.out.block k hk (fun e => hp (.inr e))) (fun _ _ h => h))
  have FBa := Lib.hid (FB9.out.keep (P' := fun k => k < w7.heap.size) hx.out.size (fun k hk hp => hx.out.block k hk (fun e => hp (by have h3 := HNN.out; omega))) (fun _ _ h => h))
  clear hx hk L9 KR9 KN9 KT9 R9 OW9 OX9 FA9 FB9
  have HRD := Lib.hid (law_read La.out.ram 0 8192 0 8192 rfl rfl (by omega) (by rw [HRN.out, HMN.out]; omega))
  go_wp2_with fail
  refine (HRD.out).mono ?_
  rintro e wb ⟨ao, ca, Fb, rfl, h1, h2, h3⟩
  have Lb := Lib.hid (La.out.step h1 h2)
  have KRb := Lib.hid (h2.heap KRa.out HN6.out.2)
  have KNb := Lib.hid (h2.heap KNa.out HNN.out.1)
  have KTb := Lib.hid (h2.heap KTa.out HNT.out.1)
  have Rb := Lib.hid (Ra.out.stepOr h2)
  have OWb := Lib.hid (ownsRow_keep OWa.out (fun q hq => h2.kx.block q (ownsRow_lt OWa.out hq).2 (HNO.out q hq)))
  have OXb := Lib.hid (ownsRow_keep OXa.out (fun q hq => h2.kx.block q (ownsRow_lt OXa.out hq).2 (fun hf => by have h1 := (ownsRow_lt OXa.out hq).1; have h2 := HF7.out q hf; omega)))
  have FAb := Lib.hid (FAa.out.keep (P' := fun _ => False) h2.kx.size (fun k hk hp => h2.kx.block k hk (fun hf => hp (.inl hf))) (fun _ _ h => h.elim))
  have FBb := Lib.hid (FBa.out.keep (P' := fun _ => False) h2.kx.size (fun k hk hp => h2.kx.block k hk (fun hf => hp (HF7.out k hf))) (fun _ _ h => h.elim))
  have BAb := Lib.hid h3
  obtain ⟨b1, c1, b2, c2, ev, hbr⟩ := Rb.out.bytes
  rw [show m2.n = 2 from HRN.out.trans HMN.out] at hbr ev
  obtain rfl : C2 = _ := by simpa using ev
  have BBb := Lib.hid hbr
  clear h1 h2 h3 hbr ev HRD La KRa KNa KTa Ra OWa OXa FAa FBa
  rw [show 4096 * 2 = 8192 from rfl] at BBb
  generalize cut m2.f 0 8192 = lc at BAb BBb KRb ⊢
  have HSA : Hid (∀ W, Below wb.heap.size wb W → (convert 62 9 (.slice ao lc.length ca)).run Tryd.prog W = .ok (.string ⟨lc.toArray⟩) W) := Lib.hid (fun W hW => str_of_bytes (BAb.out.belowS hW))
  have HSB : Hid (∀ W, Below wb.heap.size wb W → (convert 62 9 (.slice (some ⟨b1, 0, none⟩) lc.length c1)).run Tryd.prog W = .ok (.string ⟨lc.toArray⟩) W) := Lib.hid (fun W hW => str_of_bytes (BBb.out.belowS hW))
  have HGT := Lib.hid (give_nic t)
  have HNQ := Lib.hid (fun W => ns_neq t W)
  have hne : ((vs.length : Int) != (vs2.length : Int)) = false := by have h1 := HLA.out; have h2 := HLB.out; simp; omega
  have HEV : Hid (vs.length = vs2.length) := Lib.hid (by have h1 := HLA.out; have h2 := HLB.out; omega)
  go_upto_region 7 with fail
  refine wp_region_held_drew (S := fun W => Below wb.heap.size wb W) (by kernel_rfl) ((Below.refl wb.heap.size wb).drew) (fun hH0 => ?_)
  refine wpAnyH_take (i := 0) rfl (by kernel_rfl) (by kernel_rfl) (by kernel_rfl) (fun _ _ _ h => h) (yieldsIf_load_mid (by rfl) 75 _ rfl bn 0 rfl (t.c).toList _ (fun W hSw => range_of_all (keepB KNb.out hSw)) Tryd.underlying75 rfl ?hi0) (by assumption) ?rest0
  case hi0 => exact nic_size _
  simp only [Act.put, List.getElem_toArray, List.getElem_cons_zero, List.setIfInBounds_toArray, List.set_cons_zero, List.set_cons_succ]
  refine wpAnyH_take (i := 1) rfl (by kernel_rfl) (by kernel_rfl) (by kernel_rfl) (fun _ _ _ h => h) (yieldsIf_load_mid (by rfl) 59 _ rfl bt 0 rfl (t.c).toList _ (fun W hSw => range_of_all (keepB KTb.out hSw)) Tryd.underlying59 rfl ?hi1) (by assumption) ?rest1
  case hi1 => exact nic16_size _
  simp only [Act.put, List.getElem_toArray, List.getElem_cons_zero, List.getElem_cons_succ, List.setIfInBounds_toArray, List.set_cons_zero, List.set_cons_succ]
  refine wpAnyH_ready (rs := [2]) (by kernel_rfl) (by simp) ?_
  refine AllReadyH.cons (o := _) rfl (fun K hK => ?_) (AllReadyH.nil)
  simp only [List.getElem_toArray, List.getElem_cons_zero, List.getElem_cons_succ]
  go_simp
  refine (HGT.out _).mono ?_
  rintro e wc ⟨rfl, hb⟩
  refine hK.out _ _ (hH0.trans (hb.mono hH0.size)) (fun hH2 => ?_)
  clear hK K hH0 hb
  try simp only [Act.put, List.setIfInBounds_toArray, List.set_cons_zero, List.set_cons_succ]
  refine wpAnyH_take (i := 3) rfl (by kernel_rfl) (by kernel_rfl) (by kernel_rfl) (fun _ _ _ h => h) (yieldsIf_binS (by rfl) BinOp.neq 75 _ _ _ rfl (.bool false) (.agg t.c) (.agg t.c) (by rfl) (by rfl) (fun W => ns_guard _ _ _ W) HNQ.out) (by assumption) ?rest3
  simp only [Act.put, List.getElem_toArray, List.getElem_cons_zero, List.getElem_cons_succ, List.setIfInBounds_toArray, List.set_cons_zero, List.set_cons_succ]
  refine wpAnyH_take (i := 4) (v := ?v4) rfl (by kernel_rfl) (by kernel_rfl) (by kernel_rfl) (fun _ _ _ h => h) (Or.inl ⟨by rfl, ?hy4⟩) (by assumption) ?rest4
  case hy4 => (intro W hSw; go_simp; first | done | with_reducible rfl)
  simp only [Act.put, List.getElem_toArray, List.getElem_cons_zero, List.getElem_cons_succ, List.setIfInBounds_toArray, List.set_cons_zero, List.set_cons_succ]
  refine wpAnyH_take (i := 5) (v := ?v5) rfl (by kernel_rfl) (by kernel_rfl) (by kernel_rfl) (fun _ _ _ h => h) (Or.inl ⟨by rfl, ?hy5⟩) (by assumption) ?rest5
  case hy5 => (intro W hSw; go_simp; first | done | with_reducible rfl)
  simp only [Act.put, List.getElem_toArray, List.getElem_cons_zero, List.getElem_cons_succ, List.setIfInBounds_toArray, List.set_cons_zero, List.set_cons_succ]
  refine wpAnyH_take (i := 6) (v := ?v6) rfl (by kernel_rfl) (by kernel_rfl) (by kernel_rfl) (fun _ _ _ h => h) (Or.inl ⟨by rfl, ?hy6⟩) (by assumption) ?rest6
  case hy6 => (intro W hSw; go_simp; first | done | with_reducible rfl)
  simp only [Act.put, List.getElem_toArray, List.getElem_cons_zero, List.getElem_cons_succ, List.setIfInBounds_toArray, List.set_cons_zero, List.set_cons_succ]
  refine wpAnyH_take (i := 7) (v := ?v7) rfl (by kernel_rfl) (by kernel_rfl) (by kernel_rfl) (fun _ _ _ h => h) (Or.inl ⟨by rfl, ?hy7⟩) (by assumption) ?rest7
  case hy7 => (intro W hSw; go_simp; first | done | with_reducible rfl)
  simp only [Act.put, List.getElem_toArray, List.getElem_cons_zero, List.getElem_cons_succ, List.setIfInBounds_toArray, List.set_cons_zero, List.set_cons_succ]
  refine wpAnyH_take (i := 8) (v := ?v8) rfl (by kernel_rfl) (by kernel_rfl) (by kernel_rfl) (fun _ _ _ h => h) (Or.inl ⟨by rfl, ?hy8⟩) (by assumption) ?rest8
  case hy8 => (intro W hSw; go_simp; first | done | with_reducible rfl)
  simp only [Act.put, List.getElem_toArray, List.getElem_cons_zero, List.getElem_cons_succ, List.setIfInBounds_toArray, List.set_cons_zero, List.set_cons_succ]
  refine wpAnyH_take (i := 9) (v := ?v9) rfl (by kernel_rfl) (by kernel_rfl) (by kernel_rfl) (fun _ _ _ h => h) (Or.inl ⟨by rfl, ?hy9⟩) (by assumption) ?rest9
  case hy9 => (intro W hSw; go_simp; first | done | with_reducible rfl)
  simp only [Act.put, List.getElem_toArray, List.getElem_cons_zero, List.getElem_cons_succ, List.setIfInBounds_toArray, List.set_cons_zero, List.set_cons_succ]
  refine wpAnyH_take (i := 10) (v := ?v10) rfl (by kernel_rfl) (by kernel_rfl) (by kernel_rfl) (fun _ _ _ h => h) (Or.inl ⟨by rfl, ?hy10⟩) (by assumption) ?rest10
  case hy10 => (intro W hSw; go_simp; first | done | with_reducible rfl)
  simp only [Act.put, List.getElem_toArray, List.getElem_cons_zero, List.getElem_cons_succ, List.setIfInBounds_toArray, List.set_cons_zero, List.set_cons_succ]
  refine wpAnyH_take (i := 11) (v := ?v11) rfl (by kernel_rfl) (by kernel_rfl) (by kernel_rfl) (fun _ _ _ h => h) (Or.inl ⟨by rfl, ?hy11⟩) (by assumption) ?rest11
  case hy11 => (intro W hSw; go_simp; first | done | with_reducible rfl)
  simp only [Act.put, List.getElem_toArray, List.getElem_cons_zero, List.getElem_cons_succ, List.setIfInBounds_toArray, List.set_cons_zero, List.set_cons_succ]
  refine wpAnyH_take (i := 12) (v := ?v12) rfl (by kernel_rfl) (by kernel_rfl) (by kernel_rfl) (fun _ _ _ h => h) (Or.inl ⟨by rfl, ?hy12⟩) (by assumption) ?rest12
  case hy12 => (intro W hSw; go_simp; first | done | with_reducible rfl)
  simp only [Act.put, List.getElem_toArray, List.getElem_cons_zero, List.getElem_cons_succ, List.setIfInBounds_toArray, List.set_cons_zero, List.set_cons_succ]
  refine wpAnyH_take (i := 13) rfl (by kernel_rfl) (by kernel_rfl) (by kernel_rfl) (fun _ _ _ h => h) (yieldsIf_binS (by rfl) BinOp.neq 34 _ _ _ rfl (.bool false) .nilIface .nilIface (by rfl) (by rfl) (fun W => err_guard_neq _ W) err_nil_neq) (by assumption) ?rest13
  simp only [Act.put, List.getElem_toArray, List.getElem_cons_zero, List.getElem_cons_succ, List.setIfInBounds_toArray, List.set_cons_zero, List.set_cons_succ]
  refine wpAnyH_take (i := 14) (v := ?v14) rfl (by kernel_rfl) (by kernel_rfl) (by kernel_rfl) (fun _ _ _ h => h) (Or.inl ⟨by rfl, ?hy14⟩) (by assumption) ?rest14
  case hy14 => (intro W hSw; go_simp; first | done | with_reducible rfl)
  simp only [Act.put, List.getElem_toArray, List.getElem_cons_zero, List.getElem_cons_succ, List.setIfInBounds_toArray, List.set_cons_zero, List.set_cons_succ]
  refine wpAnyH_take (i := 15) (v := ?v15) rfl (by kernel_rfl) (by kernel_rfl) (by kernel_rfl) (fun _ _ _ h => h) (Or.inl ⟨by rfl, ?hy15⟩) (by assumption) ?rest15
  case hy15 => (intro W hSw; go_simp; first | done | with_reducible rfl)
  simp only [Act.put, List.getElem_toArray, List.getElem_cons_zero, List.getElem_cons_succ, List.setIfInBounds_toArray, List.set_cons_zero, List.set_cons_succ]
  refine wpAnyH_take (i := 16) (v := ?v16) rfl (by kernel_rfl) (by kernel_rfl) (by kernel_rfl) (fun _ _ _ h => h) (Or.inl ⟨by rfl, ?hy16⟩) (by assumption) ?rest16
  case hy16 => (intro W hSw; go_simp; first | done | with_reducible rfl)
  simp only [Act.put, List.getElem_toArray, List.getElem_cons_zero, List.getElem_cons_succ, List.setIfInBounds_toArray, List.set_cons_zero, List.set_cons_succ]
  refine wpAnyH_take (i := 17) (v := ?v17) rfl (by kernel_rfl) (by kernel_rfl) (by kernel_rfl) (fun _ _ _ h => h) (Or.inl ⟨by rfl, ?hy17⟩) (by assumption) ?rest17
  case hy17 => (intro W hSw; have hs := HSA.out W hSw; go_simp; first | done | with_reducible rfl)
  simp only [Act.put, List.getElem_toArray, List.getElem_cons_zero, List.getElem_cons_succ, List.setIfInBounds_toArray, List.set_cons_zero, List.set_cons_succ]
  refine wpAnyH_take (i := 18) (v := ?v18) rfl (by kernel_rfl) (by kernel_rfl) (by kernel_rfl) (fun _ _ _ h => h) (Or.inl ⟨by rfl, ?hy18⟩) (by assumption) ?rest18
  case hy18 => (intro W hSw; go_simp; first | done | with_reducible rfl)
  simp only [Act.put, List.getElem_toArray, List.getElem_cons_zero, List.getElem_cons_succ, List.setIfInBounds_toArray, List.set_cons_zero, List.set_cons_succ]
  refine wpAnyH_take (i := 19) (v := ?v19) rfl (by kernel_rfl) (by kernel_rfl) (by kernel_rfl) (fun _ _ _ h => h) (Or.inl ⟨by rfl, ?hy19⟩) (by assumption) ?rest19
  case hy19 => (intro W hSw; have cj := (cell_of_row _ _ 0 _ _ _ (keepB KRb.out hSw)).trans (rfl : _ = some (.slice (some ⟨b1, 0, none⟩) lc.length c1 : Value)); go_simp; first | done | with_reducible rfl)
  simp only [Act.put, List.getElem_toArray, List.getElem_cons_zero, List.getElem_cons_succ, List.setIfInBounds_toArray, List.set_cons_zero, List.set_cons_succ]
  refine wpAnyH_take (i := 20) (v := ?v20) rfl (by kernel_rfl) (by kernel_rfl) (by kernel_rfl) (fun _ _ _ h => h) (Or.inl ⟨by rfl, ?hy20⟩) (by assumption) ?rest20
  case hy20 => (intro W hSw; have hs := HSB.out W hSw; go_simp; first | done | with_reducible rfl)
  simp only [Act.put, List.getElem_toArray, List.getElem_cons_zero, List.getElem_cons_succ, List.setIfInBounds_toArray, List.set_cons_zero, List.set_cons_succ]
  refine wpAnyH_take (i := 21) (v := ?v21) rfl (by kernel_rfl) (by kernel_rfl) (by kernel_rfl) (fun _ _ _ h => h) (Or.inl ⟨by rfl, ?hy21⟩) (by assumption) ?rest21
  case hy21 => (intro W hSw; go_simp; first | done | with_reducible rfl)
  simp only [Act.put, List.getElem_toArray, List.getElem_cons_zero, List.getElem_cons_succ, List.setIfInBounds_toArray, List.set_cons_zero, List.set_cons_succ]
  refine wpAnyH_take (i := 22) (v := ?v22) rfl (by kernel_rfl) (by kernel_rfl) (by kernel_rfl) (fun _ _ _ h => h) (Or.inl ⟨by rfl, ?hy22⟩) (by assumption) ?rest22
  case hy22 => (intro W hSw; go_simp; first | done | with_reducible rfl)
  simp only [Act.put, List.getElem_toArray, List.getElem_cons_zero, List.getElem_cons_succ, List.setIfInBounds_toArray, List.set_cons_zero, List.set_cons_succ]
  refine wpAnyH_done (by kernel_rfl) ?_ _
  have HBC := Lib.hid hH2
  have Lc := Lib.hid (Lb.out.below HBC.out)
  have OWc := Lib.hid (ownsRow_keep OWb.out (fun q hq => HBC.out.block q (ownsRow_lt OWb.out hq).2))
  have OXc := Lib.hid (ownsRow_keep OXb.out (fun q hq => HBC.out.block q (ownsRow_lt OXb.out hq).2))
  have FAc := Lib.hid (FAb.out.below HBC.out)
  have FBc := Lib.hid (FBb.out.below HBC.out)
  clear hH2 hne HSA HSB BAb BBb Lb KRb KNb KTb Rb OWb OXb FAb FBb HBC HGT HNQ
  go_wp2_with fail
  go_loopw [13] (fun i wr => ∃ k : Nat, i = .int .i64 k ∧ k ≤ vs.length ∧ Below wc.heap.size wc wr) (fun i _ => vs.length - (intOf i).toNat)
  case atStart => exact ⟨0, rfl, Nat.zero_le _, Below.refl _ _⟩
  case round =>
    obtain ⟨k, rfl, hk, hbr⟩ := hrel
    have HBR := Lib.hid hbr
    have hk0 : (0 : Int) ≤ (k : Int) := by omega
    clear hbr
    by_cases hlt : k < vs.length
    · have hk1 : (k : Int) < (vs.length : Int) := by omega
      have hk2 : (k : Int) < (vs2.length : Int) := by have := HEV.out; omega
      have hkb : (k : Int) < 4 := by have h1 := HLA.out; have h2 : A.length ≤ 4 := HR4.out; omega
      obtain ⟨x, hx⟩ : ∃ x, A[k]? = some x := ⟨A[k]'(by have := HLA.out; omega), List.getElem?_eq_getElem (by have := HLA.out; omega)⟩
      obtain ⟨ga, ao1, p1, rfl, hga, hca, hba⟩ := frame_at OWc.out FAc.out hx hlt
      obtain ⟨gb, ao2, p2, rfl, hgb, hcb, hbb⟩ := frame_at OXc.out FBc.out hx (by have := HEV.out; omega)
      have HCA : Hid (∀ W, Below wc.heap.size wc W → W.cell? ⟨ga, k, none⟩ = some (.slice ao1 x.length p1)) := Lib.hid (fun W hW => (hW.cell (p := ⟨ga, k, none⟩) hga).trans hca)
      have HCB : Hid (∀ W, Below wc.heap.size wc W → W.cell? ⟨gb, k, none⟩ = some (.slice ao2 x.length p2)) := Lib.hid (fun W hW => (hW.cell (p := ⟨gb, k, none⟩) hgb).trans hcb)
      have HSA : Hid (∀ W, Below wc.heap.size wc W → (convert 62 9 (.slice ao1 x.length p1)).run Tryd.prog W = .ok (.string ⟨x.toArray⟩) W) := Lib.hid (fun W hW => str_of_bytes (hba.belowS hW))
      have HSB : Hid (∀ W, Below wc.heap.size wc W → (convert 62 9 (.slice ao2 x.length p2)).run Tryd.prog W = .ok (.string ⟨x.toArray⟩) W) := Lib.hid (fun W hW => str_of_bytes (hbb.belowS hW))
      clear hga hca hba hgb hcb hbb hx
      go_upto_region 12 with fail
      refine wp_region_held_drew (S := fun W => Below wc.heap.size wc W) (by kernel_rfl) (HBR.out.drew) (fun hH0 => ?_)
      refine wpAnyH_take (i := 0) (v := ?v0b) rfl (by kernel_rfl) (by kernel_rfl) (by kernel_rfl) (fun _ _ _ h => h) (Or.inl ⟨by rfl, ?hy0b⟩) (by assumption) ?rest0b
      case hy0b => (intro W hSw; go_simp; first | done | with_reducible rfl)
      simp only [Act.put, List.getElem_toArray, List.getElem_cons_zero, List.setIfInBounds_toArray, List.set_cons_zero, List.set_cons_succ]
      refine wpAnyH_take (i := 1) (v := ?v1b) rfl (by kernel_rfl) (by kernel_rfl) (by kernel_rfl) (fun _ _ _ h => h) (Or.inl ⟨by rfl, ?hy1b⟩) (by assumption) ?rest1b
      case hy1b => (intro W hSw; go_simp; first | done | with_reducible rfl)
      simp only [Act.put, List.getElem_toArray, List.getElem_cons_zero, List.getElem_cons_succ, List.setIfInBounds_toArray, List.set_cons_zero, List.set_cons_succ]
      refine wpAnyH_take (i := 2) (v := ?v2b) rfl (by kernel_rfl) (by kernel_rfl) (by kernel_rfl) (fun _ _ _ h => h) (Or.inl ⟨by rfl, ?hy2b⟩) (by assumption) ?rest2b
      case hy2b => (intro W hSw; go_simp; first | done | with_reducible rfl)
      simp only [Act.put, List.getElem_toArray, List.getElem_cons_zero, List.getElem_cons_succ, List.setIfInBounds_toArray, List.set_cons_zero, List.set_cons_succ]
      refine wpAnyH_take (i := 3) (v := ?v3b) rfl (by kernel_rfl) (by kernel_rfl) (by kernel_rfl) (fun _ _ _ h => h) (Or.inl ⟨by rfl, ?hy3b⟩) (by assumption) ?rest3b
      case hy3b => (intro W hSw; have cj := HCA.out W hSw; go_simp; first | done | with_reducible rfl)
      simp only [Act.put, List.getElem_toArray, List.getElem_cons_zero, List.getElem_cons_succ, List.setIfInBounds_toArray, List.set_cons_zero, List.set_cons_succ]
      refine wpAnyH_take (i := 4) (v := ?v4b) rfl (by kernel_rfl) (by kernel_rfl) (by kernel_rfl) (fun _ _ _ h => h) (Or.inl ⟨by rfl, ?hy4b⟩) (by assumption) ?rest4b
      case hy4b => (intro W hSw; have hs := HSA.out W hSw; go_simp; first | done | with_reducible rfl)
      simp only [Act.put, List.getElem_toArray, List.getElem_cons_zero, List.getElem_cons_succ, List.setIfInBounds_toArray, List.set_cons_zero, List.set_cons_succ]
      refine wpAnyH_take (i := 5) (v := ?v5b) rfl (by kernel_rfl) (by kernel_rfl) (by kernel_rfl) (fun _ _ _ h => h) (Or.inl ⟨by rfl, ?hy5b⟩) (by assumption) ?rest5b
      case hy5b => (intro W hSw; go_simp; first | done | with_reducible rfl)
      simp only [Act.put, List.getElem_toArray, List.getElem_cons_zero, List.getElem_cons_succ, List.setIfInBounds_toArray, List.set_cons_zero, List.set_cons_succ]
      refine wpAnyH_take (i := 6) (v := ?v6b) rfl (by kernel_rfl) (by kernel_rfl) (by kernel_rfl) (fun _ _ _ h => h) (Or.inl ⟨by rfl, ?hy6b⟩) (by assumption) ?rest6b
      case hy6b => (intro W hSw; go_simp; first | done | with_reducible rfl)
      simp only [Act.put, List.getElem_toArray, List.getElem_cons_zero, List.getElem_cons_succ, List.setIfInBounds_toArray, List.set_cons_zero, List.set_cons_succ]
      refine wpAnyH_take (i := 7) (v := ?v7b) rfl (by kernel_rfl) (by kernel_rfl) (by kernel_rfl) (fun _ _ _ h => h) (Or.inl ⟨by rfl, ?hy7b⟩) (by assumption) ?rest7b
      case hy7b => (intro W hSw; go_simp; first | done | with_reducible rfl)
      simp only [Act.put, List.getElem_toArray, List.getElem_cons_zero, List.getElem_cons_succ, List.setIfInBounds_toArray, List.set_cons_zero, List.set_cons_succ]
      refine wpAnyH_take (i := 8) (v := ?v8b) rfl (by kernel_rfl) (by kernel_rfl) (by kernel_rfl) (fun _ _ _ h => h) (Or.inl ⟨by rfl, ?hy8b⟩) (by assumption) ?rest8b
      case hy8b => (intro W hSw; have cj := HCB.out W hSw; go_simp; first | done | with_reducible rfl)
      simp only [Act.put, List.getElem_toArray, List.getElem_cons_zero, List.getElem_cons_succ, List.setIfInBounds_toArray, List.set_cons_zero, List.set_cons_succ]
      refine wpAnyH_take (i := 9) (v := ?v9b) rfl (by kernel_rfl) (by kernel_rfl) (by kernel_rfl) (fun _ _ _ h => h) (Or.inl ⟨by rfl, ?hy9b⟩) (by assumption) ?rest9b
      case hy9b => (intro W hSw; have hs := HSB.out W hSw; go_simp; first | done | with_reducible rfl)
      simp only [Act.put, List.getElem_toArray, List.getElem_cons_zero, List.getElem_cons_succ, List.setIfInBounds_toArray, List.set_cons_zero, List.set_cons_succ]
      refine wpAnyH_take (i := 10) (v := ?v10b) rfl (by kernel_rfl) (by kernel_rfl) (by kernel_rfl) (fun _ _ _ h => h) (Or.inl ⟨by rfl, ?hy10b⟩) (by assumption) ?rest10b
      case hy10b => (intro W hSw; go_simp; first | done | with_reducible rfl)
      simp only [Act.put, List.getElem_toArray, List.getElem_cons_zero, List.getElem_cons_succ, List.setIfInBounds_toArray, List.set_cons_zero, List.set_cons_succ]
      refine wpAnyH_done (by kernel_rfl) ?_ _
      have HH := Lib.hid hH0
      clear hH0 HCA HCB HSA HSB
      clear hk1 hk2
      go_wp2_with fail
      go_roundw
      case rel => exact ⟨k + 1, by go_num, by omega, HH.out⟩
      case measure => simp [intOf]; omega
    · have hk1 : ¬ (k : Int) < (vs.length : Int) := by omega
      have Lr := Lib.hid (Lc.out.below HBR.out)
      have HSU := Lib.hid (sure16_ok _ (Lr.out.regs HRG.out).1)
      go_wp2_with fail
      refine (HSU.out).mono ?_
      rintro e wz ⟨rfl, hb⟩
      go_wp2_with fail
      go_ret
      exact ⟨rfl, Lr.out.fr.trans (hb.mono Lr.out.fr.size)⟩
end Go.Proofs.YtcmbnkmbaghkdaaDoor
