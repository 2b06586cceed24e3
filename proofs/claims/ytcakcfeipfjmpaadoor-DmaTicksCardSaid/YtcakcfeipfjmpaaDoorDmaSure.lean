/-
sure of package pinnacelaw12, walked: it answers true.
Condition: the table of regions of package bus reads as its text lays it.
-/
import Derived.Test.YtcakcfeipfjmpaaDoorDmaTick
import Derived.Lib.SlBytesConst
import Derived.Laws.IdiomStrings
namespace Go.Proofs.YtcakcfeipfjmpaaDoor
open Go.RowKit

theorem store_at {g : Nat} {m : Mm} {F : Nat → Prop} {w : World} (h : RamIs w g m F) (a k v : Nat) (ai ki vi : Int) (ea : ai = a) (ek : ki = k) (ev : vi = v) (ha : a < 4294967296) (hk : okN k) (hs : a + k ≤ 4096 * m.n) (hr : a % k = 0) :
    Calls Tryd.prog 21 #[.pointer (some ⟨g, 0, none⟩), .int .u32 ai, .int .i64 ki, .int .u32 vi] w fun e w' => ∃ F', e = .returned .nilIface ∧ RamIs w' g (m.store a k v) F' ∧ MemStep F F' w w' := by
  subst ea ek ev
  exact mem_Store_ok h a k v ha hk hs hr
theorem new_at (n : Nat) (ni : Int) (en : ni = n) (w : World) (n1 : 1 ≤ n) (n2 : n ≤ 16384) :
    Calls Tryd.prog 35 #[.int .i64 ni] w fun e w' => ∃ g F', e = .returned (.tuple #[.pointer (some ⟨g, 0, none⟩), .nilIface]) ∧ RamIs w' g (Mm.new n) F' ∧ (∀ k, F' k → w.heap.size ≤ k) ∧ Below w.heap.size w w' := by
  subst en
  exact mem_New_ok n w n1 n2
/-- The memory of a law: what it leaves of the world that the law began in. -/
structure LawMem (w0 : World) (W : World) (g : Nat) (m : Mm) (F : Nat → Prop) : Prop where
  ram : RamIs W g m F
  lo : ∀ k, F k → w0.heap.size ≤ k
  fr : Below w0.heap.size w0 W
theorem LawMem.step {w0 W W' : World} {g : Nat} {m m' : Mm} {F F' : Nat → Prop} (h : LawMem w0 W g m F) (hr : RamIs W' g m' F') (hs : MemStep F F' W W') : LawMem w0 W' g m' F' :=
  ⟨hr, fun k hk => (hs.gr k hk).elim (h.lo k) (fun hl => Nat.le_trans h.fr.size hl), h.fr.trans (hs.toBelow (fun k' hk hf => absurd (h.lo k' hf) (Nat.not_le_of_lt hk)) h.fr.size)⟩
theorem LawMem.below {w0 W W' : World} {g : Nat} {m : Mm} {F : Nat → Prop} (h : LawMem w0 W g m F) (hb : Below W.heap.size W W') : LawMem w0 W' g m F :=
  ⟨h.ram.below hb, h.lo, h.fr.trans (hb.mono h.fr.size)⟩
theorem LawMem.own {w0 W W' : World} {g : Nat} {m : Mm} {F : Nat → Prop} {b : Nat} (h : LawMem w0 W g m F) (hk : KX (fun k => k = b) W W') (hb : w0.heap.size ≤ b) (hf : ¬ F b) : LawMem w0 W' g m F :=
  ⟨h.ram.kx hk (fun _ _ hfk e => hf (e ▸ hfk)), h.lo, h.fr.trans (hk.below (fun _ hl e => absurd (e ▸ hl) (Nat.not_lt_of_le hb)) h.fr.size)⟩
theorem LawMem.reg {w0 W : World} {g : Nat} {m : Mm} {F : Nat → Prop} (h : LawMem w0 W g m F) (hr : RegAt w0) : RegAt W ∧ ¬ F 1 :=
  ⟨hr.below h.fr, fun hf => absurd (h.lo _ hf) (Nat.not_le_of_lt hr.1)⟩

theorem str_of_bytes {w : World} {ao : Option Addr} {l : List UInt8} {cap : Nat} {F : Nat → Prop} (h : BytesAt w ao l F) : (convert 27 9 (.slice ao l.length cap)).run Tryd.prog w = .ok (.string ⟨l.toArray⟩) w := by
  cases ao with
  | some a =>
    refine run_convert_bytes_back (P := Tryd.prog) w 27 9 5 a cap l Tryd.underlying27 Tryd.underlying5 Tryd.underlying9 (fun j hj => ?_)
    obtain ⟨b, o, ha, _, _, hc⟩ := h (fun e => by subst e; simp at hj)
    obtain rfl : a = ⟨b, o, none⟩ := Option.some.inj ha
    rw [Addr.add_lit]
    exact hc j _ (List.getElem?_eq_getElem hj)
  | none =>
    have hl : l = [] := by
      apply Classical.byContradiction
      intro hne
      obtain ⟨b, o, ha, _⟩ := h hne
      cases ha
    subst hl
    rw [run_convert_bytes_string w 27 9 5 none _ cap Tryd.underlying27 Tryd.underlying5 Tryd.underlying9]
    rfl
def sureM1 : Mm := (((Mm.new 1).store 0 4 2147483904).store 4 4 2147484160).store 8 4 3
def sureM2 : Mm := sureM1.write 256 [97, 98, 99]
def sureS0 : Dst := { Dst.zero with head := 2147483648 }
def sureS1 : Dst := sureS0.wr 0 1
def sureS2 : Dst := sureS1.tick sureM2
def sureS3 : Dst := sureS2.tick (sureS1.after sureM2)
def sureM3 : Mm := sureS2.after (sureS1.after sureM2)
theorem sureS1_eq : sureS1 = ⟨1, 2147483648, 2147483648, 0, 0, false, 0, 0, 0, 0, false⟩ := by decide +kernel
theorem sureS2_eq : sureS2 = ⟨1, 2147483648, 2147483648, 1, 0, true, 2147483904, 2147484160, 3, 0, false⟩ := by decide +kernel
theorem sureS3_eq : sureS3 = ⟨2, 2147483648, 2147483648, 1, 3, false, 0, 0, 0, 0, true⟩ := by decide +kernel
theorem sureM3_n : sureM3.n = 1 := by decide +kernel
theorem sureRead : cut sureM3.f 512 3 = [97, 98, 99] := by decide +kernel
theorem Dst.c_one (s : Dst) : s.c.all (·.oneCell') = true := by simp [Dst.c, Value.oneCell']
theorem sureS1_wf : sureS1.wf := by rw [sureS1_eq]; constructor <;> decide
theorem sureS2_wf : sureS2.wf := by rw [sureS2_eq]; constructor <;> decide
set_option maxRecDepth 100000 in
set_option maxHeartbeats 4000000 in
theorem dma_sure (w : World) (hr : RegAt w) : Calls Tryd.prog 14 #[] w fun e w' => e = .returned (.bool true) ∧ Below w.heap.size w w' := by
  have HR := Lib.hid hr
  clear hr
  have HN := Lib.hid (new_at 1 1 rfl w (by omega) (by omega))
  go_enter Tryd.func14, Tryd.ntmps14
  go_wp2_with fail
  refine (HN.out).mono ?_
  rintro e w1 ⟨g, F1, rfl, h1, h2, h3⟩
  have L1 := Lib.hid (LawMem.mk h1 h2 h3)
  clear h1 h2 h3 HN
  have HS1 := Lib.hid (store_at L1.out.ram 0 4 2147483904 0 4 2147483904 rfl rfl rfl (by omega) (.inr (.inr rfl)) (by show 0 + 4 ≤ 4096 * 1; omega) (by omega))
  go_wp2_with fail
  refine (HS1.out).mono ?_
  rintro e w2 ⟨F2, rfl, h1, h2⟩
  have L2 := Lib.hid (L1.out.step h1 h2)
  clear h1 h2 HS1
  have HS2 := Lib.hid (store_at L2.out.ram 4 4 2147484160 4 4 2147484160 rfl rfl rfl (by omega) (.inr (.inr rfl)) (by show 4 + 4 ≤ 4096 * 1; omega) (by omega))
  go_wp2_with fail
  refine (HS2.out).mono ?_
  rintro e w3 ⟨F3, rfl, h1, h2⟩
  have L3 := Lib.hid (L2.out.step h1 h2)
  clear h1 h2 HS2
  have HS3 := Lib.hid (store_at L3.out.ram 8 4 3 8 4 3 rfl rfl rfl (by omega) (.inr (.inr rfl)) (by show 8 + 4 ≤ 4096 * 1; omega) (by omega))
  go_wp2_with fail
  refine (HS3.out).mono ?_
  rintro e w4 ⟨F4, rfl, h1, h2⟩
  have L4 := Lib.hid (L3.out.step h1 h2)
  clear h1 h2 HS3
  have kc := fun (W : World) (C : Array Value) (n c : Nat) => Lib.run_convert_bytes_const (P := Tryd.prog) W 27 5 C n c Tryd.underlying27 Tryd.underlying5
  have HAL := Lib.hid (heap_alloc_new w4 (.cells #[.int .u8 97, .int .u8 98, .int .u8 99] 5 (3, 4)))
  have L5 := Lib.hid (L4.out.below ((Below.refl w4.heap.size w4).alloc (Nat.le_refl _) (.cells #[.int .u8 97, .int .u8 98, .int .u8 99] 5 (3, 4))))
  have HWR := Lib.hid (mem_Write_ok L5.out.ram 256 (some ⟨w4.heap.size, 0, none⟩) [97, 98, 99] 3 (by omega) (by show 256 + 3 ≤ 4096 * 1; omega) (fun _ => ⟨w4.heap.size, 0, rfl, by simp, fun hf => absurd (L4.out.ram.lt _ hf) (Nat.lt_irrefl _), fun j x hj => by
    refine (cell_of_row _ _ (0 + j) _ _ _ HAL.out).trans ?_
    match j, hj with
    | 0, hj => obtain rfl : 97 = x := by simpa using hj
               rfl
    | 1, hj => obtain rfl : 98 = x := by simpa using hj
               rfl
    | 2, hj => obtain rfl : 99 = x := by simpa using hj
               rfl⟩) (by simp))
  go_wp2_with fail
  refine (HWR.out).mono ?_
  rintro e w6 ⟨F6, rfl, h1, h2⟩
  have L6 : Hid (LawMem w w6 g sureM2 F6) := Lib.hid (L5.out.step h1 h2)
  clear h1 h2 HWR HAL kc
  have HDW := Lib.hid (fun W => dma_Write_ok sureS0 0 1 W (by decide) (by omega) (by omega))
  have e0 : sureS0.c = #[.int .u32 0, .int .u32 2147483648, .int .u32 0, .int .u32 0, .int .u32 0, .bool false, .int .u32 0, .int .u32 0, .int .u32 0, .int .u32 0, .bool false] := rfl
  rw [e0, show ((0 : Nat) : Int) = 0 from rfl, show ((1 : Nat) : Int) = 1 from rfl] at HDW
  rw [show sureS0.wr 0 1 = sureS1 from rfl] at HDW
  clear e0
  go_wp2_with fail
  refine (HDW.out _).mono ?_
  rintro e w7 ⟨rfl, hb7⟩
  have L7 := Lib.hid ((L6.out.below hb7).below ((Below.refl w7.heap.size w7).alloc (Nat.le_refl _) (.cells #[.int .u32 0, .int .u32 0, .int .u32 0, .int .u32 0, .int .u32 0, .bool false, .int .u32 0, .int .u32 0, .int .u32 0, .int .u32 0, .bool false] 33)))
  have K7 := Lib.hid (heap_alloc_new w7 (.cells #[.int .u32 0, .int .u32 0, .int .u32 0, .int .u32 0, .int .u32 0, .bool false, .int .u32 0, .int .u32 0, .int .u32 0, .int .u32 0, .bool false] 33))
  have HLO : Hid (w.heap.size ≤ w7.heap.size) := Lib.hid (L6.out.below hb7).fr.size
  have HNF : Hid (¬ F6 w7.heap.size) := Lib.hid (fun hf => absurd ((L6.out.below hb7).ram.lt _ hf) (Nat.lt_irrefl _))
  clear hb7
  go_wp2_with (refine wpList_store_to rfl 33 _ _ rfl w7.heap.size sureS1.c rfl rfl 33 #[.int .u32 0, .int .u32 0, .int .u32 0, .int .u32 0, .int .u32 0, .bool false, .int .u32 0, .int .u32 0, .int .u32 0, .int .u32 0, .bool false] K7.out (by kernel_rfl) rfl (Dst.c_one _) ?_)
  intro w8 hx8 k8
  have L8 := Lib.hid (L7.out.own hx8.out HLO.out HNF.out)
  have K8 := Lib.hid k8
  clear hx8 k8 K7
  generalize w7.heap.size = b3 at HLO HNF K8 ⊢
  have HT1 := Lib.hid (dma_Tick sureS1 sureS1_wf L8.out.ram (L8.out.reg HR.out).1 (L8.out.reg HR.out).2)
  rw [show sureS1.tick sureM2 = sureS2 from rfl] at HT1
  go_wp2_with (refine wpList_load_row rfl 33 _ rfl b3 rfl 33 sureS1.c (0, 0) _ K8.out Tryd.underlying33 rfl (by kernel_rfl) ?_)
  refine (HT1.out).mono ?_
  rintro e w9 ⟨rfl, F9, h1, h2⟩
  have L9 := Lib.hid (L8.out.step h1 h2)
  have K9 := Lib.hid (h2.heap K8.out HNF.out)
  have HNF9 : Hid (¬ F9 b3) := Lib.hid (h2.off (lt_heap K8.out) HNF.out)
  clear h1 h2 HT1
  have HT2 := Lib.hid (dma_Tick sureS2 sureS2_wf L9.out.ram (L9.out.reg HR.out).1 (L9.out.reg HR.out).2)
  rw [show sureS2.tick (sureS1.after sureM2) = sureS3 from rfl, show sureS2.after (sureS1.after sureM2) = sureM3 from rfl] at HT2
  go_wp2_with fail
  refine (HT2.out).mono ?_
  rintro e w10 ⟨rfl, F10, h1, h2⟩
  have L10 := Lib.hid (L9.out.step h1 h2)
  have K10 := Lib.hid (h2.heap K9.out HNF9.out)
  have HNF10 : Hid (¬ F10 b3) := Lib.hid (h2.off (lt_heap K9.out) HNF9.out)
  clear h1 h2 HT2
  go_wp2_with (refine wpList_store_to rfl 33 _ _ rfl b3 sureS3.c rfl rfl 33 sureS1.c K10.out rfl rfl (Dst.c_one _) ?_)
  intro w11 hx11 k11
  have L11 := Lib.hid (L10.out.own hx11.out HLO.out HNF10.out)
  have K11 := Lib.hid k11
  clear hx11 k11
  have HRD := Lib.hid (mem_Read_ok L11.out.ram 512 3 (by omega) (by rw [sureM3_n]; omega))
  rw [sureRead] at HRD
  go_wp2_with fail
  refine (HRD.out).mono ?_
  rintro e w12 ⟨v, F12, rfl, h1, h2, h3, h4⟩
  have L12 := Lib.hid (L11.out.step h1 h2)
  have K12 := Lib.hid (h2.heap K11.out HNF10.out)
  clear h1 h2 HRD
  rw [sureS3_eq] at K12
  have c0 := (cell_of_row _ _ 0 _ _ _ K12.out).trans (rfl : _ = some (Value.int .u32 2))
  have c4 := (cell_of_row _ _ 4 _ _ _ K12.out).trans (rfl : _ = some (Value.int .u32 3))
  have c10 := (cell_of_row _ _ 10 _ _ _ K12.out).trans (rfl : _ = some (Value.bool true))
  have hen := err_nil_eql
  obtain ⟨ao, cv, rfl, hcv, hln, hba⟩ := BytesAt.of_owns h3 h4
  have hstr := str_of_bytes (cap := cv) hba
  simp only [List.length_cons, List.length_nil] at hstr
  clear h3 h4 hcv hln hba
  have HF := Lib.hid L12.out.fr
  go_wp2_with fail
  go_ret
  exact ⟨rfl, HF.out⟩
end Go.Proofs.YtcakcfeipfjmpaaDoor
