/-
pinnacelaw16.NicHolds, walked: it answers true.
Condition: the table of regions of package bus reads as its text lays it.
-/
import Derived.Test.YtcbjlpkkebcmjaaDoorNicOk
import Derived.Test.YtcbjlpkkebcmjaaDoorSure16
import Derived.Test.YtcbjlpkkebcmjaaDoorNicCheck
import Derived.Test.YtcbjlpkkebcmjaaDoorGiveNic
import Derived.Test.YtcbjlpkkebcmjaaDoorLawKitB
import Derived.Test.YtcbjlpkkebcmjaaDoorOpenFrames
import Derived.Deep.CutRange
namespace Go.Proofs.YtcbjlpkkebcmjaaDoor
open Go.RowKit
set_option linter.unusedVariables false

/-- What a round holds: the device's box, its memory. -/
structure HoldAt (w W : World) (g bx : Nat) (s : NS) (m : Mm) (F : Nat → Prop) : Prop where
  ok : s.p.ok
  wf : s.p.wf
  lost : s.lost < 4294967296
  mem : LawMem w W g m F
  row : W.heap[bx]? = some (.cells s.c 87 (0, 0))
  nb : ¬ F bx
  lo : w.heap.size ≤ bx
namespace HoldAt
variable {w W W' : World} {g bx : Nat} {s s' : NS} {m m' : Mm} {F F' : Nat → Prop}
theorem below (h : HoldAt w W g bx s m F) (hb : Below W.heap.size W W') : HoldAt w W' g bx s m F := ⟨h.ok, h.wf, h.lost, h.mem.below hb, keepB h.row hb, h.nb, h.lo⟩
theorem step (h : HoldAt w W g bx s m F) (hr : RamIs W' g m' F') (hs : MemStep F F' W W') : HoldAt w W' g bx s m' F' := ⟨h.ok, h.wf, h.lost, h.mem.step hr hs, hs.heap h.row h.nb, hs.off (lt_heap h.row) h.nb, h.lo⟩
theorem own (h : HoldAt w W g bx s m F) {b : Nat} (hk : KX (fun k => k = b) W W') (hb : w.heap.size ≤ b) (hf : ¬ F b) (hne : bx ≠ b) : HoldAt w W' g bx s m F := ⟨h.ok, h.wf, h.lost, h.mem.own hk hb hf, hk.heap h.row hne, h.nb, h.lo⟩
theorem new (h : HoldAt w W g bx s m F) : w.heap.size ≤ W.heap.size ∧ ¬ F W.heap.size ∧ bx ≠ W.heap.size := ⟨h.mem.fr.size, fun hf => absurd (h.mem.ram.lt _ hf) (Nat.lt_irrefl _), Nat.ne_of_lt (lt_heap h.row)⟩
end HoldAt
/-- What a frame that came leaves. -/
def CameAt (w wx : World) (g bx b2 : Nat) (s y : NS) (R : NS × Mm × Bool × Nat) (v14 v15 v16 : Value) : Prop :=
  ∃ bz F', v14 = .pointer (some ⟨bz, 0, none⟩) ∧ v15 = .bool R.2.2.1 ∧ v16 = errV R.2.2.2 ∧ HoldAt w wx g bx s R.2.1 F' ∧ wx.heap[b2]? = some (.cells y.c 87 (0, 0)) ∧ wx.heap[bz]? = some (.cells R.1.c 87 (0, 0))
theorem row_rangeN {w : World} {g : Nat} {c : Array Value} {t : TypeId} {fr : Nat × Nat} (h : w.heap[g]? = some (.cells c t fr)) : w.rangeAt g 0 c.toList := range_of_row h 0 _ fun j v hv => by rw [Nat.zero_add]; simpa using hv
theorem lost_cell {W : World} {b : Nat} {s : NS} (h : W.heap[b]? = some (.cells s.c 87 (0, 0))) : W.cell? ⟨b, 22, none⟩ = some (.int .u32 s.lost) := (cell_of_row _ _ 22 _ _ _ h).trans rfl
theorem BytesAt.below' {w W : World} {ao : Option Addr} {l : List UInt8} {F : Nat → Prop} (h : BytesAt w ao l F) (hb : Below w.heap.size w W) : BytesAt W ao l F := fun hne => by
  obtain ⟨b, o, h1, h2, h3, h4⟩ := h hne
  exact ⟨b, o, h1, Nat.lt_of_lt_of_le h2 hb.size, h3, fun j x hj => (hb.cell (p := ⟨b, o + j, none⟩) h2).trans (h4 j x hj)⟩

set_option maxRecDepth 100000 in
set_option maxHeartbeats 16000000 in
theorem holds16_no (s : NS) (hs : s.wf) (pw : Option Addr) (lw : List (Nat × Nat)) (cw : Nat) (pf : Option Addr) (nf cf : Nat) (w : World) (HP : PairsL w pw lw) (hmax : lw.length ≤ maxLen) (hnf : nf ≤ maxLen) (HF : FramesLie w pf nf) (hr : RegAt w) (hok : ¬ s.p.ok) :
    Calls Tryd.prog 8 #[.agg s.c, .slice pw lw.length cw, .slice pf nf cf] w fun e w' => e = .returned (.bool true) ∧ Below w.heap.size w w' := by
  have HRG := Lib.hid hr
  have K0 := Lib.hid (heap_alloc_new w (.cells s.c 77))
  have HB0 := Lib.hid ((Below.refl w.heap.size w).alloc (Nat.le_refl _) (.cells s.c 77))
  have HBT := Lib.hid (both_ok pw lw cw (w.alloc (.cells s.c 77)) (HP.below HB0.out) hmax)
  have HFL := Lib.hid HF
  have hnf1 : (nf : Int) ≤ 9223372036854775807 := by simp only [maxLen] at hnf; omega
  have hnf0 : (0 : Int) ≤ (nf : Int) := by omega
  have HG := Lib.hid (give_nic s)
  have HS := Lib.hid hs
  have HC := Lib.hid (fun W => nic_Check s hs.p.hst W)
  rw [if_neg hok] at HC
  have HOK := Lib.hid hok
  obtain ⟨C0, hC0⟩ : ∃ C0 : Array Value, C0 = s.c := ⟨_, rfl⟩
  have HI0 : Hid ((Tryd.prog.info? 77).map (·.size) = some C0.size) := Lib.hid (by rw [hC0]; kernel_rfl)
  have HI1 : Hid ((Tryd.prog.info? 87).map (·.size) = some C0.size) := Lib.hid (by rw [hC0]; kernel_rfl)
  have HO0 : Hid (C0.all (·.oneCell') = true) := Lib.hid (by rw [hC0]; exact s.c_one)
  have HZ0 : Hid (NS.zero.c.size = C0.size) := Lib.hid (by rw [hC0]; rfl)
  have HC0 := Lib.hid hC0
  rw [← hC0] at K0 HB0 HBT HG HC ⊢
  clear hr HP hmax hnf HF hs hok hC0
  go_enter Tryd.func8, Tryd.ntmps8
  go_upto_region 1 with fail
  change Code.wp _ _ _ _ (w.alloc (.cells C0 77))
  generalize w.alloc (.cells C0 77) = w1 at K0 HB0 HBT ⊢
  go_wp2_with fail
  refine (HBT.out).mono ?_
  rintro e w2 ⟨g, F2, v, rfl, hlm, hrf⟩
  have L2 := Lib.hid (hlm.back HB0.out)
  have K2 := Lib.hid (keepB K0.out hlm.fr)
  obtain ⟨C, rfl, hCs, hC1⟩ := hrf.form
  have HCS := Lib.hid (And.intro hCs hC1)
  clear hlm hrf hCs hC1 HBT K0 HB0
  have K3 := Lib.hid (heap_alloc_new w2 (.cells #[.slice none 0 0, .slice none 0 0, .int .i64 0] 83))
  have HBA := Lib.hid ((Below.refl w2.heap.size w2).alloc (Nat.le_refl _) (.cells #[.slice none 0 0, .slice none 0 0, .int .i64 0] 83))
  have L3 := Lib.hid (L2.out.below HBA.out)
  have K4 := Lib.hid (keepB K2.out HBA.out)
  have HX3 := Lib.hid (And.intro L2.out.fr.size (And.intro (show ¬ F2 w2.heap.size from fun hf => absurd (L2.out.ram.lt _ hf) (Nat.lt_irrefl _)) (lt_heap K2.out)))
  clear L2 K2 HBA
  go_wp2_with (refine wpList_store_to rfl 83 _ _ rfl w2.heap.size C rfl rfl 83 #[.slice none 0 0, .slice none 0 0, .int .i64 0] K3.out (by rw [HCS.out.1]; kernel_rfl) (by rw [HCS.out.1]; rfl) HCS.out.2 ?_)
  intro w4 hx hk
  have L4 := Lib.hid (L3.out.own hx.out HX3.out.1 HX3.out.2.1)
  have K5 := Lib.hid (hx.out.heap K4.out (Nat.ne_of_lt HX3.out.2.2))
  clear hx hk L3 K3 K4 HX3 HCS
  go_wp2_with (refine wpList_load_row rfl 77 _ rfl w.heap.size rfl 77 C0 (0, 0) _ K5.out Tryd.underlying77 rfl HI0.out ?_)
  refine (HG.out _).mono ?_
  rintro e w5 ⟨rfl, hb⟩
  have L5 := Lib.hid (L4.out.below hb)
  clear hb L4 K5 HG
  have K6 := Lib.hid (heap_alloc_new w5 (.cells #[.int .u32 0, .int .u32 0, .int .u32 0, .int .u32 0, .int .u32 0, .int .u32 0, .int .u32 0, .bool false, .int .i64 0, .int .u32 0, .int .u32 0, .int .u32 0, .int .u16 0, .int .u16 0, .bool false, .int .i64 0, .int .u32 0, .int .u32 0, .int .u32 0, .int .u16 0, .int .u16 0, .bool false, .int .u32 0] 87))
  have L6 := Lib.hid (L5.out.below ((Below.refl w5.heap.size w5).alloc (Nat.le_refl _) (.cells #[.int .u32 0, .int .u32 0, .int .u32 0, .int .u32 0, .int .u32 0, .int .u32 0, .int .u32 0, .bool false, .int .i64 0, .int .u32 0, .int .u32 0, .int .u32 0, .int .u16 0, .int .u16 0, .bool false, .int .i64 0, .int .u32 0, .int .u32 0, .int .u32 0, .int .u16 0, .int .u16 0, .bool false, .int .u32 0] 87)))
  have HX5 := Lib.hid (And.intro L5.out.fr.size (show ¬ F2 w5.heap.size from fun hf => absurd (L5.out.ram.lt _ hf) (Nat.lt_irrefl _)))
  clear L5
  go_wp2_with (refine wpList_store_to rfl 87 _ _ rfl w5.heap.size C0 rfl rfl 87 NS.zero.c K6.out HI1.out HZ0.out HO0.out ?_)
  intro w6 hx hk
  have L7 := Lib.hid (L6.out.own hx.out HX5.out.1 HX5.out.2)
  have K7 := Lib.hid hk
  clear hx hk L6 K6
  generalize w5.heap.size = bx at HX5 K7 ⊢
  go_wp2_with (first | go_skip | (refine wpList_load_row rfl 87 _ rfl bx rfl 87 C0 (0, 0) _ K7.out Tryd.underlying87 rfl HI1.out ?_) | (refine load_rowW rfl 87 _ rfl bx rfl 87 C0 (0, 0) _ K7.out Tryd.underlying87 rfl HI1.out ?_))
  refine (HC.out _).mono ?_
  rintro e w7 ⟨rfl, hb⟩
  have L8 := Lib.hid (L7.out.below hb)
  have K8 := Lib.hid (keepB K7.out hb)
  clear hb L7 K7 HC
  have HSU := Lib.hid (sure16_ok w7 (L8.out.regs HRG.out).1)
  rw [show errV 1 = .iface 140 (.int .i64 (1 : Nat)) from errV_val (by omega)]
  go_wp2_with fail
  refine (HSU.out).mono ?_
  rintro e w8 ⟨rfl, hb⟩
  go_wp2_with fail
  go_ret
  exact ⟨rfl, L8.out.fr.trans (hb.mono L8.out.fr.size)⟩
set_option maxRecDepth 100000 in
set_option maxHeartbeats 16000000 in
theorem holds16_yes (s : NS) (hs : s.wf) (pw : Option Addr) (lw : List (Nat × Nat)) (cw : Nat) (pf : Option Addr) (nf cf : Nat) (w : World) (HP : PairsL w pw lw) (hmax : lw.length ≤ maxLen) (hnf : nf ≤ maxLen) (HF : FramesLie w pf nf) (hr : RegAt w) (hok : s.p.ok) :
    Calls Tryd.prog 8 #[.agg s.c, .slice pw lw.length cw, .slice pf nf cf] w fun e w' => e = .returned (.bool true) ∧ Below w.heap.size w w' := by
  have HRG := Lib.hid hr
  have K0 := Lib.hid (heap_alloc_new w (.cells s.c 77))
  have HB0 := Lib.hid ((Below.refl w.heap.size w).alloc (Nat.le_refl _) (.cells s.c 77))
  have HBT := Lib.hid (both_ok pw lw cw (w.alloc (.cells s.c 77)) (HP.below HB0.out) hmax)
  have HFL := Lib.hid HF
  have hnf1 : (nf : Int) ≤ 9223372036854775807 := by simp only [maxLen] at hnf; omega
  have hnf0 : (0 : Int) ≤ (nf : Int) := by omega
  have HG := Lib.hid (give_nic s)
  have HS := Lib.hid hs
  have HC := Lib.hid (fun W => nic_Check s hs.p.hst W)
  rw [if_pos hok] at HC
  have HOK := Lib.hid hok
  obtain ⟨C0, hC0⟩ : ∃ C0 : Array Value, C0 = s.c := ⟨_, rfl⟩
  have HI0 : Hid ((Tryd.prog.info? 77).map (·.size) = some C0.size) := Lib.hid (by rw [hC0]; kernel_rfl)
  have HI1 : Hid ((Tryd.prog.info? 87).map (·.size) = some C0.size) := Lib.hid (by rw [hC0]; kernel_rfl)
  have HO0 : Hid (C0.all (·.oneCell') = true) := Lib.hid (by rw [hC0]; exact s.c_one)
  have HZ0 : Hid (NS.zero.c.size = C0.size) := Lib.hid (by rw [hC0]; rfl)
  have HC0 := Lib.hid hC0
  rw [← hC0] at K0 HB0 HBT HG HC ⊢
  clear hr HP hmax hnf HF hs hok hC0
  go_enter Tryd.func8, Tryd.ntmps8
  go_upto_region 1 with fail
  change Code.wp _ _ _ _ (w.alloc (.cells C0 77))
  generalize w.alloc (.cells C0 77) = w1 at K0 HB0 HBT ⊢
  go_wp2_with fail
  refine (HBT.out).mono ?_
  rintro e w2 ⟨g, F2, v, rfl, hlm, hrf⟩
  have L2 := Lib.hid (hlm.back HB0.out)
  have K2 := Lib.hid (keepB K0.out hlm.fr)
  obtain ⟨C, rfl, hCs, hC1⟩ := hrf.form
  have HCS := Lib.hid (And.intro hCs hC1)
  clear hlm hrf hCs hC1 HBT K0 HB0
  have K3 := Lib.hid (heap_alloc_new w2 (.cells #[.slice none 0 0, .slice none 0 0, .int .i64 0] 83))
  have HBA := Lib.hid ((Below.refl w2.heap.size w2).alloc (Nat.le_refl _) (.cells #[.slice none 0 0, .slice none 0 0, .int .i64 0] 83))
  have L3 := Lib.hid (L2.out.below HBA.out)
  have K4 := Lib.hid (keepB K2.out HBA.out)
  have HX3 := Lib.hid (And.intro L2.out.fr.size (And.intro (show ¬ F2 w2.heap.size from fun hf => absurd (L2.out.ram.lt _ hf) (Nat.lt_irrefl _)) (lt_heap K2.out)))
  clear L2 K2 HBA
  go_wp2_with (refine wpList_store_to rfl 83 _ _ rfl w2.heap.size C rfl rfl 83 #[.slice none 0 0, .slice none 0 0, .int .i64 0] K3.out (by rw [HCS.out.1]; kernel_rfl) (by rw [HCS.out.1]; rfl) HCS.out.2 ?_)
  intro w4 hx hk
  have L4 := Lib.hid (L3.out.own hx.out HX3.out.1 HX3.out.2.1)
  have K5 := Lib.hid (hx.out.heap K4.out (Nat.ne_of_lt HX3.out.2.2))
  clear hx hk L3 K3 K4 HX3 HCS
  go_wp2_with (refine wpList_load_row rfl 77 _ rfl w.heap.size rfl 77 C0 (0, 0) _ K5.out Tryd.underlying77 rfl HI0.out ?_)
  refine (HG.out _).mono ?_
  rintro e w5 ⟨rfl, hb⟩
  have L5 := Lib.hid (L4.out.below hb)
  clear hb L4 K5 HG
  have K6 := Lib.hid (heap_alloc_new w5 (.cells #[.int .u32 0, .int .u32 0, .int .u32 0, .int .u32 0, .int .u32 0, .int .u32 0, .int .u32 0, .bool false, .int .i64 0, .int .u32 0, .int .u32 0, .int .u32 0, .int .u16 0, .int .u16 0, .bool false, .int .i64 0, .int .u32 0, .int .u32 0, .int .u32 0, .int .u16 0, .int .u16 0, .bool false, .int .u32 0] 87))
  have L6 := Lib.hid (L5.out.below ((Below.refl w5.heap.size w5).alloc (Nat.le_refl _) (.cells #[.int .u32 0, .int .u32 0, .int .u32 0, .int .u32 0, .int .u32 0, .int .u32 0, .int .u32 0, .bool false, .int .i64 0, .int .u32 0, .int .u32 0, .int .u32 0, .int .u16 0, .int .u16 0, .bool false, .int .i64 0, .int .u32 0, .int .u32 0, .int .u32 0, .int .u16 0, .int .u16 0, .bool false, .int .u32 0] 87)))
  have HX5 := Lib.hid (And.intro L5.out.fr.size (show ¬ F2 w5.heap.size from fun hf => absurd (L5.out.ram.lt _ hf) (Nat.lt_irrefl _)))
  clear L5
  go_wp2_with (refine wpList_store_to rfl 87 _ _ rfl w5.heap.size C0 rfl rfl 87 NS.zero.c K6.out HI1.out HZ0.out HO0.out ?_)
  intro w6 hx hk
  have L7 := Lib.hid (L6.out.own hx.out HX5.out.1 HX5.out.2)
  have K7 := Lib.hid hk
  clear hx hk L6 K6
  generalize w5.heap.size = bx at HX5 K7 ⊢
  go_wp2_with (first | go_skip | (refine wpList_load_row rfl 87 _ rfl bx rfl 87 C0 (0, 0) _ K7.out Tryd.underlying87 rfl HI1.out ?_) | (refine load_rowW rfl 87 _ rfl bx rfl 87 C0 (0, 0) _ K7.out Tryd.underlying87 rfl HI1.out ?_))
  refine (HC.out _).mono ?_
  rintro e w7 ⟨rfl, hb⟩
  have L8 := Lib.hid (L7.out.below hb)
  have K8 := Lib.hid (keepB K7.out hb)
  clear hb L7 K7 HC
  have R0 : Hid (HoldAt w w7 g bx s (layL (lw.take 80)) F2) := Lib.hid ⟨HOK.out, HS.out.p, HS.out.lost, L8.out, by rw [← HC0.out]; exact K8.out, HX5.out.2, HX5.out.1⟩
  clear L8 K8 HX5 HS HOK HI0 HI1 HO0 HZ0 HC0
  rw [show errV 0 = .nilIface from rfl]
  go_wp2_with fail
  go_loopw [10] (fun i wr => ∃ (k : Nat) (s : NS) (m : Mm) (F : Nat → Prop), k ≤ nf ∧ i = .int .i64 k ∧ HoldAt w wr g bx s m F) (fun i _ => nf - (intOf i).toNat)
  case atStart => exact ⟨0, s, _, F2, by omega, rfl, R0.out⟩
  case round =>
    obtain ⟨k, s, m, F, hk, rfl, hR⟩ := hrel
    have R := Lib.hid hR
    clear hR R0
    have hk0 : (0 : Int) ≤ (k : Int) := by omega
    have hkn : (k : Int) ≤ (nf : Int) := by omega
    by_cases hlt : k < nf
    · by_cases h12 : k < 12
      · have hlt' : (k : Int) < (nf : Int) := by omega
        have h12' : (k : Int) < 12 := by omega
        obtain ⟨fb, fo, fp, fl, fc, rfl, hfc, hfm, hfl, hcell⟩ := HFL.out k hlt
        have HSN := Lib.hid (nic_Send s R.out.wf R.out.mem.ram (R.out.mem.regs HRG.out).1 (R.out.mem.regs HRG.out).2)
        have HKEEP := Lib.hid (nsend_keeps s m R.out.ok R.out.wf)
        obtain ⟨c, hc⟩ : ∃ c, c = s.c := ⟨_, rfl⟩
        have HIC : Hid ((Tryd.prog.info? 87).map (·.size) = some c.size) := Lib.hid (by rw [hc]; exact nic_size s)
        have RX : Hid (wr.heap[bx]? = some (.cells c 87 (0, 0))) := Lib.hid (by rw [hc]; exact R.out.row)
        rw [← hc] at HSN
        have HCX := Lib.hid hc
        have HFC := Lib.hid (And.intro hfc hfm)
        have HBL := Lib.hid hfl
        have HCELL := Lib.hid hcell
        obtain ⟨fn, hfn⟩ : ∃ fn, fn = fl.length := ⟨_, rfl⟩
        rw [← hfn] at HCELL
        have HFN := Lib.hid hfn
        clear hc hfc hfm hfl hcell hfn
        generalize nsend s m = RS at HSN HKEEP
        go_wp2_with (refine wpList_load_row rfl 87 _ rfl bx rfl 87 c (0, 0) _ RX.out Tryd.underlying87 rfl HIC.out ?_)
        refine (HSN.out).mono ?_
        rintro e w2 ⟨fv, vs, F2, rfl, h1, h2, h3, h4, h5, h6⟩
        have R2 := Lib.hid (R.out.step h1 h2)
        clear HSN RX HIC HCX
        obtain ⟨fa, fcp, rfl, hfa⟩ : ∃ fa fcp, fv = .slice fa vs.length fcp ∧ ∀ j, j < vs.length → ∃ q, fa = some ⟨q, 0, none⟩ ∧ q < w2.heap.size ∧ w2.cell? ⟨q, j, none⟩ = vs[j]? := by
          rcases h3.2 with ⟨rfl, he⟩ | ⟨q, cap, cur, rfl, hg, hh, hc, _⟩
          · exact ⟨none, 0, by rw [he], fun j hj => absurd hj (by omega)⟩
          · exact ⟨some ⟨q, 0, none⟩, cap, rfl, fun j hj => ⟨q, rfl, lt_heap hh, h3.cellAt j (by omega)⟩⟩
        have HFR : Hid (∀ j, j < vs.length → ∃ q b o l cp, fa = some ⟨q, 0, none⟩ ∧ q < w2.heap.size ∧ w2.cell? ⟨q, j, none⟩ = some (.slice (some ⟨b, o, none⟩) l cp) ∧ 1 ≤ l ∧ l ≤ 1514) := Lib.hid (fun j hj => by
          obtain ⟨q, e1, e2, e3⟩ := hfa j hj
          have hj2 : j < RS.2.2.length := by rw [h4]; exact hj
          obtain ⟨b, o, cp, g1, _⟩ := h6 j _ (List.getElem?_eq_getElem hj2)
          exact ⟨q, b, o, _, cp, e1, e2, e3.trans g1, HKEEP.out.2.2.2.2.2 _ (List.getElem_mem hj2)⟩)
        have hnv4 : (vs.length : Int) ≤ 4 := by have := HKEEP.out.2.2.2.2.1; omega
        generalize vs.length = nv at HFR hnv4 ⊢
        have hnv0 : (0 : Int) ≤ (nv : Int) := by omega
        clear h1 h2 h3 h4 h5 h6 hfa
        obtain ⟨y, hy⟩ : ∃ y, y = RS.1 := ⟨_, rfl⟩
        obtain ⟨m2, hm2⟩ : ∃ m2, m2 = RS.2.1 := ⟨_, rfl⟩
        have HYK : Hid (y.p.ok ∧ y.p.wf ∧ y.lost = s.lost) := Lib.hid (by rw [hy]; exact ⟨HKEEP.out.1, HKEEP.out.2.1, HKEEP.out.2.2.1⟩)
        rw [← hm2] at R2
        rw [← hy]
        clear HKEEP hy hm2
        obtain ⟨d, hd⟩ : ∃ d, d = y.c := ⟨_, rfl⟩
        have HID : Hid ((Tryd.prog.info? 87).map (·.size) = some d.size) := Lib.hid (by rw [hd]; exact nic_size y)
        have HOD : Hid (d.all (·.oneCell') = true) := Lib.hid (by rw [hd]; exact y.c_one)
        have HZD : Hid (NS.zero.c.size = d.size) := Lib.hid (by rw [hd]; rfl)
        have HCD := Lib.hid (fun W => nic_Check y HYK.out.2.1.hst W)
        rw [if_pos HYK.out.1, show errV 0 = .nilIface from rfl] at HCD
        have HD := Lib.hid hd
        rw [← hd] at HCD ⊢
        clear hd
        have KZ := Lib.hid (heap_alloc_new w2 (.cells #[.int .u32 0, .int .u32 0, .int .u32 0, .int .u32 0, .int .u32 0, .int .u32 0, .int .u32 0, .bool false, .int .i64 0, .int .u32 0, .int .u32 0, .int .u32 0, .int .u16 0, .int .u16 0, .bool false, .int .i64 0, .int .u32 0, .int .u32 0, .int .u32 0, .int .u16 0, .int .u16 0, .bool false, .int .u32 0] 87))
        have HBZ := Lib.hid ((Below.refl w2.heap.size w2).alloc (Nat.le_refl _) (.cells #[.int .u32 0, .int .u32 0, .int .u32 0, .int .u32 0, .int .u32 0, .int .u32 0, .int .u32 0, .bool false, .int .i64 0, .int .u32 0, .int .u32 0, .int .u32 0, .int .u16 0, .int .u16 0, .bool false, .int .i64 0, .int .u32 0, .int .u32 0, .int .u32 0, .int .u16 0, .int .u16 0, .bool false, .int .u32 0] 87))
        have R3 := Lib.hid (R2.out.below HBZ.out)
        have HNEW := Lib.hid R2.out.new
        go_wp2_with (refine wpList_store_to rfl 87 _ _ rfl w2.heap.size d rfl rfl 87 NS.zero.c KZ.out HID.out HZD.out HOD.out ?_)
        intro w4 hx hk4
        have R4 := Lib.hid (R3.out.own hx.out HNEW.out.1 HNEW.out.2.1 HNEW.out.2.2)
        have KY := Lib.hid hk4
        have HFR4 : Hid (Below w2.heap.size w2 w4) := Lib.hid (HBZ.out.trans (hx.out.below (fun k hk e => by omega) (by simp)))
        clear hx hk4 R3 KZ HBZ R2
        generalize w2.heap.size = b2 at HNEW KY HFR HFR4 ⊢
        go_wp2_with (refine wpList_load_row rfl 87 _ rfl b2 rfl 87 d (0, 0) _ KY.out Tryd.underlying87 rfl HID.out ?_)
        refine (HCD.out _).mono ?_
        rintro e w5 ⟨rfl, hb⟩
        have R5 := Lib.hid (R4.out.below hb)
        have KY5 := Lib.hid (keepB KY.out hb)
        have HFR5 : Hid (∀ j, j < nv → ∃ q b o l cp, fa = some ⟨q, 0, none⟩ ∧ w5.cell? ⟨q, j, none⟩ = some (.slice (some ⟨b, o, none⟩) l cp) ∧ 1 ≤ l ∧ l ≤ 1514) := Lib.hid (fun j hj => by
          obtain ⟨q, b, o, l, cp, e1, e2, e3, e4⟩ := HFR.out j hj
          exact ⟨q, b, o, l, cp, e1, (hb.cell (p := ⟨q, j, none⟩) (Nat.lt_trans e2 (lt_heap KY.out))).trans ((HFR4.out.cell (p := ⟨q, j, none⟩) e2).trans e3), e4⟩)
        clear hb R4 KY HFR HFR4 HCD
        have cy := lost_cell (s := y) (by rw [← HD.out]; exact KY5.out)
        have cx := lost_cell R5.out.row
        rw [HYK.out.2.2] at cy
        go_wp2_with fail
        clear cx cy
        go_loop [13] (fun v => ∃ j : Nat, j ≤ nv ∧ v = .int .i64 j) (fun v => nv - (intOf v).toNat)
        case atStart => exact ⟨0, by omega, rfl⟩
        case round =>
          obtain ⟨j, hj, rfl⟩ := hrel
          have hj0 : (0 : Int) ≤ (j : Int) := by omega
          have hjn : (j : Int) ≤ (nv : Int) := by omega
          by_cases hjl : j < nv
          · have hjl' : (j : Int) < (nv : Int) := by omega
            obtain ⟨q, b, o, l, cp, rfl, e1, e2, e3⟩ := HFR5.out j hjl
            have e2' : (1 : Int) ≤ (l : Int) := by omega
            have e3' : (l : Int) ≤ 1514 := by omega
            clear e2 e3
            go_wp2_with fail
            go_round
            case rel => exact ⟨j + 1, by omega, by go_num⟩
            case measure => simp [intOf]; omega
          · obtain rfl : j = nv := by omega
            have HTK := Lib.hid (fun W F (hl : LawMem w W g m2 F) => nic_Take y HYK.out.2.1 (by rw [HYK.out.2.2]; exact R5.out.lost) fp fl fc hl.ram (hl.regs HRG.out).1 (hl.regs HRG.out).2 (HBL.out.atL hl) HFC.out.1)
            rw [← HD.out] at HTK
            have HKT : Hid (if 1 ≤ fn ∧ fn ≤ 1514 then TakeKept y (ntake y m2 fl) else (ntake y m2 fl).2.2.2 = 2 ∧ (ntake y m2 fl).2.1 = m2) := Lib.hid (by
              split
              · rename_i hin; exact ntake_keeps y m2 fl HYK.out.1 HYK.out.2.1 (by rw [← HFN.out]; exact hin)
              · rename_i hin; rw [show ntake y m2 fl = (NS.zero, m2, false, 2) from if_pos (by rw [← HFN.out]; omega)]; exact ⟨rfl, rfl⟩)
            generalize ntake y m2 fl = RT at HTK HKT
            rw [← HFN.out] at HTK
            go_wp2_with fail
            go_cut [14, 15, 16] from 36 to 138 (fun v14 v15 v16 wx => CameAt w wx g bx b2 s y RT v14 v15 v16)
            case first =>
              have HMK : Hid (∀ W : World, W.heap[b2]? = some (.cells d 87 (0, 0)) → Below w.heap.size w W → (W.heap[b2]? = some (.cells d 87 (0, 0)) ∧ W.cell? ⟨fb, fo + k, none⟩ = some (.slice fp fn fc))) := Lib.hid (fun W h1 h2 => ⟨h1, HCELL.out W h2⟩)
              have hb2 := lt_heap KY5.out
              have HDR : ∀ RT : NS × Mm × Bool × Nat, HoldAt w w5.drew g bx s m2 F2 := fun _ => R5.out.below (Below.refl _ _).drew
              have R6 := Lib.hid (HDR RT)
              clear HDR
              have K6 : Hid (w5.drew.heap[b2]? = some (.cells d 87 (0, 0))) := Lib.hid KY5.out
              have HRO := Lib.hid (NS.c_one RT.1)
              refine wp_region_held_drew (S := fun W => W.heap[b2]? = some (.cells d 87 (0, 0)) ∧ W.cell? ⟨fb, fo + k, none⟩ = some (.slice fp fn fc)) (by kernel_rfl) (HMK.out _ KY5.out R5.out.mem.fr.drew) (fun hH0 => ?_)
              refine wpAnyH_take (i := 1) (v := ?v1) rfl (by kernel_rfl) (by kernel_rfl) (by kernel_rfl) (fun _ _ _ h => h) (Or.inl ⟨by rfl, ?hy1⟩) (by assumption) ?rest1
              case hy1 => (intro W hSw; go_simp; first | done | with_reducible rfl)
              simp only [Act.put, List.getElem_toArray, List.getElem_cons_zero, List.getElem_cons_succ, List.setIfInBounds_toArray, List.set_cons_zero, List.set_cons_succ]
              refine wpAnyH_take (i := 2) (v := ?v2) rfl (by kernel_rfl) (by kernel_rfl) (by kernel_rfl) (fun _ _ _ h => h) (Or.inl ⟨by rfl, ?hy2⟩) (by assumption) ?rest2
              case hy2 => (intro W hSw; go_simp; first | done | with_reducible rfl)
              simp only [Act.put, List.getElem_toArray, List.getElem_cons_zero, List.getElem_cons_succ, List.setIfInBounds_toArray, List.set_cons_zero, List.set_cons_succ]
              refine wpAnyH_take (i := 3) (v := ?v3) rfl (by kernel_rfl) (by kernel_rfl) (by kernel_rfl) (fun _ _ _ h => h) (Or.inl ⟨by rfl, ?hy3⟩) (by assumption) ?rest3
              case hy3 => (intro W hSw; go_simp; first | done | with_reducible rfl)
              simp only [Act.put, List.getElem_toArray, List.getElem_cons_zero, List.getElem_cons_succ, List.setIfInBounds_toArray, List.set_cons_zero, List.set_cons_succ]
              refine wpAnyH_take (i := 4) (v := ?v4) rfl (by kernel_rfl) (by kernel_rfl) (by kernel_rfl) (fun _ _ _ h => h) (Or.inl ⟨by rfl, ?hy4⟩) (by assumption) ?rest4
              case hy4 => (intro W hSw; go_simp; first | done | with_reducible rfl)
              simp only [Act.put, List.getElem_toArray, List.getElem_cons_zero, List.getElem_cons_succ, List.setIfInBounds_toArray, List.set_cons_zero, List.set_cons_succ]
              refine wpAnyH_take (i := 5) (v := ?v5) rfl (by kernel_rfl) (by kernel_rfl) (by kernel_rfl) (fun _ _ _ h => h) (Or.inl ⟨by rfl, ?hy5⟩) (by assumption) ?rest5
              case hy5 => (intro W hSw; go_simp; first | done | with_reducible rfl)
              simp only [Act.put, List.getElem_toArray, List.getElem_cons_zero, List.getElem_cons_succ, List.setIfInBounds_toArray, List.set_cons_zero, List.set_cons_succ]
              refine wpAnyH_take (i := 0) rfl (by kernel_rfl) (by kernel_rfl) (by kernel_rfl) (fun _ _ _ h => h) (yieldsIf_load_mid (by rfl) 87 _ rfl b2 0 rfl d.toList _ (fun W hSw => row_rangeN hSw.1) Tryd.underlying87 rfl ?hi0) (by assumption) ?rest0
              case hi0 => exact (HID.out.trans (by simp))
              simp only [Act.put, List.getElem_toArray, List.getElem_cons_zero, List.setIfInBounds_toArray, List.set_cons_zero, List.set_cons_succ]
              refine wpAnyH_ready (rs := [6, 11]) (by kernel_rfl) (by simp) ?_
              refine AllReadyH.cons (o := _) rfl (fun K hK => ?_) (AllReadyH.cons (o := _) rfl (fun K hK => ?_) (AllReadyH.nil))
              · simp only [List.getElem_toArray, List.getElem_cons_zero, List.getElem_cons_succ]
                go_simp
                refine ((HTK.out _ _ R6.out.mem)).mono ?_
                rintro e w7 ⟨F7, rfl, h1, h2⟩
                have R7 := Lib.hid (R6.out.step h1 h2)
                have hnb2 : ¬ F2 b2 := HNEW.out.2.1
                have K7 := Lib.hid (h2.heap K6.out hnb2)
                have HF7 := Lib.hid (h2.off (lt_heap K6.out) hnb2)
                refine hK.out _ _ (HMK.out _ K7.out R7.out.mem.fr) (fun hH1 => ?_)
                clear hK K hH0 h1 h2
                try simp only [Act.put, List.setIfInBounds_toArray, List.set_cons_zero, List.set_cons_succ]
                refine wpAnyH_take (i := 7) (v := ?v7) rfl (by kernel_rfl) (by kernel_rfl) (by kernel_rfl) (fun _ _ _ h => h) (Or.inl ⟨by rfl, ?hy7⟩) (by assumption) ?rest7
                case hy7 => (intro W hSw; go_simp; first | done | with_reducible rfl)
                simp only [Act.put, List.getElem_toArray, List.getElem_cons_zero, List.getElem_cons_succ, List.setIfInBounds_toArray, List.set_cons_zero, List.set_cons_succ]
                refine wpAnyH_take (i := 8) (v := ?v8) rfl (by kernel_rfl) (by kernel_rfl) (by kernel_rfl) (fun _ _ _ h => h) (Or.inl ⟨by rfl, ?hy8⟩) (by assumption) ?rest8
                case hy8 => (intro W hSw; go_simp; first | done | with_reducible rfl)
                simp only [Act.put, List.getElem_toArray, List.getElem_cons_zero, List.getElem_cons_succ, List.setIfInBounds_toArray, List.set_cons_zero, List.set_cons_succ]
                refine wpAnyH_take (i := 9) (v := ?v9) rfl (by kernel_rfl) (by kernel_rfl) (by kernel_rfl) (fun _ _ _ h => h) (Or.inl ⟨by rfl, ?hy9⟩) (by assumption) ?rest9
                case hy9 => (intro W hSw; go_simp; first | done | with_reducible rfl)
                simp only [Act.put, List.getElem_toArray, List.getElem_cons_zero, List.getElem_cons_succ, List.setIfInBounds_toArray, List.set_cons_zero, List.set_cons_succ]
                refine wpAnyH_take (i := 10) (v := ?v10) rfl (by kernel_rfl) (by kernel_rfl) (by kernel_rfl) (fun _ _ _ h => h) (Or.inl ⟨by rfl, ?hy10⟩) (by assumption) ?rest10
                case hy10 => (intro W hSw; go_simp; first | done | with_reducible rfl)
                simp only [Act.put, List.getElem_toArray, List.getElem_cons_zero, List.getElem_cons_succ, List.setIfInBounds_toArray, List.set_cons_zero, List.set_cons_succ]
                refine wpAnyH_ready (rs := [11]) (by kernel_rfl) (by simp) ?_
                refine AllReadyH.cons (o := _) rfl (fun K hK => ?_) (AllReadyH.nil)
                simp only [List.getElem_toArray, List.getElem_cons_zero, List.getElem_cons_succ]
                go_simp
                have RZ := Lib.hid (heap_alloc_new w7 (.cells #[.int .u32 0, .int .u32 0, .int .u32 0, .int .u32 0, .int .u32 0, .int .u32 0, .int .u32 0, .bool false, .int .i64 0, .int .u32 0, .int .u32 0, .int .u32 0, .int .u16 0, .int .u16 0, .bool false, .int .i64 0, .int .u32 0, .int .u32 0, .int .u32 0, .int .u16 0, .int .u16 0, .bool false, .int .u32 0] 87))
                have HBZ := Lib.hid ((Below.refl w7.heap.size w7).alloc (Nat.le_refl _) (.cells #[.int .u32 0, .int .u32 0, .int .u32 0, .int .u32 0, .int .u32 0, .int .u32 0, .int .u32 0, .bool false, .int .i64 0, .int .u32 0, .int .u32 0, .int .u32 0, .int .u16 0, .int .u16 0, .bool false, .int .i64 0, .int .u32 0, .int .u32 0, .int .u32 0, .int .u16 0, .int .u16 0, .bool false, .int .u32 0] 87))
                have RH := Lib.hid (R7.out.below HBZ.out)
                have RY := Lib.hid (keepB K7.out HBZ.out)
                have HNZ := Lib.hid (And.intro R7.out.new.1 (And.intro R7.out.new.2.1 (And.intro R7.out.new.2.2 (Nat.ne_of_lt (lt_heap K7.out)))))
                refine hK.out _ _ (HMK.out _ RY.out RH.out.mem.fr) (fun hH2 => ?_)
                clear hK K hH1
                try simp only [Act.put, List.setIfInBounds_toArray, List.set_cons_zero, List.set_cons_succ]
                refine wpAnyH_ready (rs := [12]) (by kernel_rfl) (by simp) ?_
                refine AllReadyH.cons (o := _) rfl (fun K hK => ?_) (AllReadyH.nil)
                simp only [List.getElem_toArray, List.getElem_cons_zero, List.getElem_cons_succ]
                try rw [if_pos (by rfl)]
                refine wp_store_row 87 _ _ rfl (w7.heap.size) RT.1.c rfl rfl 87 NS.zero.c RZ.out (nic_size _) rfl HRO.out ?_
                have HX := Lib.hid ((KX.refl (fun k => k = w7.heap.size) (w7.alloc (.cells #[.int .u32 0, .int .u32 0, .int .u32 0, .int .u32 0, .int .u32 0, .int .u32 0, .int .u32 0, .bool false, .int .i64 0, .int .u32 0, .int .u32 0, .int .u32 0, .int .u16 0, .int .u16 0, .bool false, .int .i64 0, .int .u32 0, .int .u32 0, .int .u32 0, .int .u16 0, .int .u16 0, .bool false, .int .u32 0] 87))).setRow (g := w7.heap.size) (.inl rfl) RT.1.c)
                have KZ2 := Lib.hid (setRow_heap (w7.alloc (.cells #[.int .u32 0, .int .u32 0, .int .u32 0, .int .u32 0, .int .u32 0, .int .u32 0, .int .u32 0, .bool false, .int .i64 0, .int .u32 0, .int .u32 0, .int .u32 0, .int .u16 0, .int .u16 0, .bool false, .int .i64 0, .int .u32 0, .int .u32 0, .int .u32 0, .int .u16 0, .int .u16 0, .bool false, .int .u32 0] 87)) (w7.heap.size) _ RT.1.c _ _ RZ.out)
                generalize (w7.alloc (.cells #[.int .u32 0, .int .u32 0, .int .u32 0, .int .u32 0, .int .u32 0, .int .u32 0, .int .u32 0, .bool false, .int .i64 0, .int .u32 0, .int .u32 0, .int .u32 0, .int .u16 0, .int .u16 0, .bool false, .int .i64 0, .int .u32 0, .int .u32 0, .int .u32 0, .int .u16 0, .int .u16 0, .bool false, .int .u32 0] 87)).setRow (w7.heap.size) RT.1.c = w9 at HX KZ2
                have RH9 := Lib.hid (RH.out.own HX.out HNZ.out.1 HNZ.out.2.1 HNZ.out.2.2.1)
                have RY9 := Lib.hid (HX.out.heap RY.out HNZ.out.2.2.2)
                refine hK.out _ _ (HMK.out _ RY9.out RH9.out.mem.fr) (fun hH9 => ?_)
                clear hK K hH2
                try simp only [Act.put]
                refine wpAnyH_take (i := 13) (v := ?v13a) rfl (by kernel_rfl) (by kernel_rfl) (by kernel_rfl) (fun _ _ _ h => h) (Or.inl ⟨by rfl, ?hy13a⟩) (by assumption) ?rest13a
                case hy13a => (intro W hSw; go_simp; first | done | with_reducible rfl)
                simp only [Act.put, List.getElem_toArray, List.getElem_cons_zero, List.getElem_cons_succ, List.setIfInBounds_toArray, List.set_cons_zero, List.set_cons_succ]
                refine wpAnyH_take (i := 14) (v := ?v14a) rfl (by kernel_rfl) (by kernel_rfl) (by kernel_rfl) (fun _ _ _ h => h) (Or.inl ⟨by rfl, ?hy14a⟩) (by assumption) ?rest14a
                case hy14a => (intro W hSw; go_simp; first | done | with_reducible rfl)
                simp only [Act.put, List.getElem_toArray, List.getElem_cons_zero, List.getElem_cons_succ, List.setIfInBounds_toArray, List.set_cons_zero, List.set_cons_succ]
                refine wpAnyH_done (by kernel_rfl) ?_ _
                clear hH9
                go_wp2_with fail
                go_meet
                case rel => exact ⟨_, _, rfl, rfl, rfl, RH9.out, by rw [← HD.out]; exact RY9.out, KZ2.out⟩
              · simp only [List.getElem_toArray, List.getElem_cons_zero, List.getElem_cons_succ]
                go_simp
                have RZ0 := Lib.hid (heap_alloc_new w5.drew (.cells #[.int .u32 0, .int .u32 0, .int .u32 0, .int .u32 0, .int .u32 0, .int .u32 0, .int .u32 0, .bool false, .int .i64 0, .int .u32 0, .int .u32 0, .int .u32 0, .int .u16 0, .int .u16 0, .bool false, .int .i64 0, .int .u32 0, .int .u32 0, .int .u32 0, .int .u16 0, .int .u16 0, .bool false, .int .u32 0] 87))
                have HBZ := Lib.hid ((Below.refl w5.drew.heap.size w5.drew).alloc (Nat.le_refl _) (.cells #[.int .u32 0, .int .u32 0, .int .u32 0, .int .u32 0, .int .u32 0, .int .u32 0, .int .u32 0, .bool false, .int .i64 0, .int .u32 0, .int .u32 0, .int .u32 0, .int .u16 0, .int .u16 0, .bool false, .int .i64 0, .int .u32 0, .int .u32 0, .int .u32 0, .int .u16 0, .int .u16 0, .bool false, .int .u32 0] 87))
                have R7 := Lib.hid (R6.out.below HBZ.out)
                have K7 := Lib.hid (keepB K6.out HBZ.out)
                have HN0 := Lib.hid (And.intro R6.out.new.1 (And.intro R6.out.new.2.1 (And.intro R6.out.new.2.2 (Nat.ne_of_lt (lt_heap K6.out)))))
                refine hK.out _ _ (HMK.out _ K7.out R7.out.mem.fr) (fun hH1 => ?_)
                clear hK K hH0
                try simp only [Act.put, List.setIfInBounds_toArray, List.set_cons_zero, List.set_cons_succ]
                refine wpAnyH_ready (rs := [6]) (by kernel_rfl) (by simp) ?_
                refine AllReadyH.cons (o := _) rfl (fun K hK => ?_) (AllReadyH.nil)
                simp only [List.getElem_toArray, List.getElem_cons_zero, List.getElem_cons_succ]
                go_simp
                refine ((HTK.out _ _ R7.out.mem)).mono ?_
                rintro e w7 ⟨F7, rfl, h1, h2⟩
                have RH := Lib.hid (R7.out.step h1 h2)
                have RY := Lib.hid (h2.heap K7.out HNEW.out.2.1)
                have RZ := Lib.hid (h2.heap RZ0.out HN0.out.2.1)
                have HNZ := Lib.hid (And.intro HN0.out.1 (And.intro (h2.off (lt_heap RZ0.out) HN0.out.2.1) HN0.out.2.2))
                refine hK.out _ _ (HMK.out _ RY.out RH.out.mem.fr) (fun hH2 => ?_)
                clear hK K hH1 h1 h2
                try simp only [Act.put, List.setIfInBounds_toArray, List.set_cons_zero, List.set_cons_succ]
                refine wpAnyH_take (i := 7) (v := ?v7b) rfl (by kernel_rfl) (by kernel_rfl) (by kernel_rfl) (fun _ _ _ h => h) (Or.inl ⟨by rfl, ?hy7b⟩) (by assumption) ?rest7b
                case hy7b => (intro W hSw; go_simp; first | done | with_reducible rfl)
                simp only [Act.put, List.getElem_toArray, List.getElem_cons_zero, List.getElem_cons_succ, List.setIfInBounds_toArray, List.set_cons_zero, List.set_cons_succ]
                refine wpAnyH_take (i := 8) (v := ?v8b) rfl (by kernel_rfl) (by kernel_rfl) (by kernel_rfl) (fun _ _ _ h => h) (Or.inl ⟨by rfl, ?hy8b⟩) (by assumption) ?rest8b
                case hy8b => (intro W hSw; go_simp; first | done | with_reducible rfl)
                simp only [Act.put, List.getElem_toArray, List.getElem_cons_zero, List.getElem_cons_succ, List.setIfInBounds_toArray, List.set_cons_zero, List.set_cons_succ]
                refine wpAnyH_take (i := 9) (v := ?v9b) rfl (by kernel_rfl) (by kernel_rfl) (by kernel_rfl) (fun _ _ _ h => h) (Or.inl ⟨by rfl, ?hy9b⟩) (by assumption) ?rest9b
                case hy9b => (intro W hSw; go_simp; first | done | with_reducible rfl)
                simp only [Act.put, List.getElem_toArray, List.getElem_cons_zero, List.getElem_cons_succ, List.setIfInBounds_toArray, List.set_cons_zero, List.set_cons_succ]
                refine wpAnyH_take (i := 10) (v := ?v10b) rfl (by kernel_rfl) (by kernel_rfl) (by kernel_rfl) (fun _ _ _ h => h) (Or.inl ⟨by rfl, ?hy10b⟩) (by assumption) ?rest10b
                case hy10b => (intro W hSw; go_simp; first | done | with_reducible rfl)
                simp only [Act.put, List.getElem_toArray, List.getElem_cons_zero, List.getElem_cons_succ, List.setIfInBounds_toArray, List.set_cons_zero, List.set_cons_succ]
                refine wpAnyH_ready (rs := [12]) (by kernel_rfl) (by simp) ?_
                refine AllReadyH.cons (o := _) rfl (fun K hK => ?_) (AllReadyH.nil)
                simp only [List.getElem_toArray, List.getElem_cons_zero, List.getElem_cons_succ]
                try rw [if_pos (by rfl)]
                refine wp_store_row 87 _ _ rfl (w5.drew.heap.size) RT.1.c rfl rfl 87 NS.zero.c RZ.out (nic_size _) rfl HRO.out ?_
                have HX := Lib.hid ((KX.refl (fun k => k = w5.drew.heap.size) (w7)).setRow (g := w5.drew.heap.size) (.inl rfl) RT.1.c)
                have KZ2 := Lib.hid (setRow_heap (w7) (w5.drew.heap.size) _ RT.1.c _ _ RZ.out)
                generalize (w7).setRow (w5.drew.heap.size) RT.1.c = w9 at HX KZ2
                have RH9 := Lib.hid (RH.out.own HX.out HNZ.out.1 HNZ.out.2.1 HNZ.out.2.2.1)
                have RY9 := Lib.hid (HX.out.heap RY.out HNZ.out.2.2.2)
                refine hK.out _ _ (HMK.out _ RY9.out RH9.out.mem.fr) (fun hH9 => ?_)
                clear hK K hH2
                try simp only [Act.put]
                refine wpAnyH_take (i := 13) (v := ?v13b) rfl (by kernel_rfl) (by kernel_rfl) (by kernel_rfl) (fun _ _ _ h => h) (Or.inl ⟨by rfl, ?hy13b⟩) (by assumption) ?rest13b
                case hy13b => (intro W hSw; go_simp; first | done | with_reducible rfl)
                simp only [Act.put, List.getElem_toArray, List.getElem_cons_zero, List.getElem_cons_succ, List.setIfInBounds_toArray, List.set_cons_zero, List.set_cons_succ]
                refine wpAnyH_take (i := 14) (v := ?v14b) rfl (by kernel_rfl) (by kernel_rfl) (by kernel_rfl) (fun _ _ _ h => h) (Or.inl ⟨by rfl, ?hy14b⟩) (by assumption) ?rest14b
                case hy14b => (intro W hSw; go_simp; first | done | with_reducible rfl)
                simp only [Act.put, List.getElem_toArray, List.getElem_cons_zero, List.getElem_cons_succ, List.setIfInBounds_toArray, List.set_cons_zero, List.set_cons_succ]
                refine wpAnyH_done (by kernel_rfl) ?_ _
                clear hH9
                go_wp2_with fail
                go_meet
                case rel => exact ⟨_, _, rfl, rfl, rfl, RH9.out, by rw [← HD.out]; exact RY9.out, KZ2.out⟩
            case rest =>
              obtain ⟨bz, F7, rfl, rfl, rfl, hR7, hy7, hz7⟩ := hcut
              have R7 := Lib.hid hR7
              have KY7 := Lib.hid hy7
              have KZ7 := Lib.hid hz7
              clear hR7 hy7 hz7 HTK R5 KY5 HFR5
              have hcell := HCELL.out _ R7.out.mem.fr
              by_cases hin : 1 ≤ fn ∧ fn ≤ 1514
              · rw [if_pos hin] at HKT
                obtain ⟨k1, k2, k3, k4⟩ := HKT.out
                rw [k1, show errV 0 = .nilIface from rfl]
                obtain ⟨z, hz⟩ : ∃ z, z = RT.1 := ⟨_, rfl⟩
                obtain ⟨m3, hm3⟩ : ∃ m3, m3 = RT.2.1 := ⟨_, rfl⟩
                obtain ⟨is, his⟩ : ∃ is, is = RT.2.2.1 := ⟨_, rfl⟩
                rw [← hz] at KZ7 k2 k3 k4
                rw [← hm3] at R7
                rw [← his] at k4 ⊢
                rw [HYK.out.2.2] at k4
                have hlst := R7.out.lost
                have hzl : z.lost < 4294967296 := by rw [k4]; split <;> omega
                have HZK : Hid (z.p.ok ∧ z.p.wf ∧ z.lost < 4294967296) := Lib.hid ⟨k2, k3, hzl⟩
                have cz := lost_cell KZ7.out
                have cy := lost_cell KY7.out
                rw [HYK.out.2.2] at cy
                rw [k4] at cz
                obtain ⟨c3, hc3⟩ : ∃ c3, c3 = z.c := ⟨_, rfl⟩
                have HI3 : Hid ((Tryd.prog.info? 87).map (·.size) = some c3.size) := Lib.hid (by rw [hc3]; exact nic_size z)
                have HO3 : Hid (c3.all (·.oneCell') = true) := Lib.hid (by rw [hc3]; exact z.c_one)
                have HZ3 : Hid (s.c.size = c3.size) := Lib.hid (by rw [hc3]; rfl)
                have HCZ := Lib.hid (fun W => nic_Check z k3.hst W)
                rw [if_pos k2, show errV 0 = .nilIface from rfl] at HCZ
                rw [← hc3] at HCZ KZ7
                have HC3 := Lib.hid hc3
                clear hz hm3 his k1 k2 k3 k4 hc3 hzl hcell
                go_wp2_with (refine wpList_load_row rfl 87 _ rfl bz rfl 87 c3 (0, 0) _ KZ7.out Tryd.underlying87 rfl HI3.out ?_)
                refine (HCZ.out _).mono ?_
                rintro e w9 ⟨rfl, hb⟩
                have R9 := Lib.hid (R7.out.below hb)
                have KZ9 := Lib.hid (keepB KZ7.out hb)
                have cz9 := (hb.cell (p := ⟨bz, 22, none⟩) (lt_heap KZ7.out)).trans cz
                have cy9 := (hb.cell (p := ⟨b2, 22, none⟩) (lt_heap KY7.out)).trans cy
                have RX9 := Lib.hid R9.out.row
                clear hb R7 KY7 KZ7 cz cy HCZ
                obtain ⟨lo, hlo⟩ : ∃ lo, lo = s.lost := ⟨_, rfl⟩
                rw [← hlo] at cz9 cy9 hlst
                have hlst2 : (lo : Int) < 4294967296 := by omega
                have hlo0 : (0 : Int) ≤ (lo : Int) := by omega
                have HLS := Lib.hid (And.intro hlst2 hlo0)
                clear hlo hlst hlst2
                cases is
                · rw [if_neg (by simp)] at cz9
                  have hn0 : decide ((lo + 1) % 4294967296 = lo) = false := by have := HLS.out; simp; omega
                  have hn1 : ((((lo + 1) % 4294967296 : Nat) : Int) == (lo : Int)) = false := by have := HLS.out; simp; omega
                  have hw1 : IntKind.u32.wrap ((lo : Int) + 1) = (((lo + 1) % 4294967296 : Nat) : Int) := by rw [IntKind.wrap_u32]; omega
                  have hw2 : ((lo : Int) + 1) % 4294967296 = (((lo + 1) % 4294967296 : Nat) : Int) := by omega
                  generalize ((lo + 1) % 4294967296 : Nat) = lp at cz9 hn0 hn1 hw1 hw2
                  go_upto_region 22 with fail
                  go_wp2_with (first | (refine wpList_load_row rfl 87 _ rfl bz rfl 87 c3 (0, 0) _ KZ9.out Tryd.underlying87 rfl HI3.out ?_) | (refine wpList_store_to rfl 87 _ _ rfl bx c3 rfl rfl 87 s.c RX9.out HI3.out HZ3.out HO3.out ?_))
                  intro w10 hx hkz
                  have LX := Lib.hid (R9.out.mem.own hx.out R9.out.lo R9.out.nb)
                  have KX10 := Lib.hid hkz
                  clear hx hkz
                  go_wp2_with fail
                  go_roundw
                  case rel => exact ⟨k + 1, z, m3, F7, by omega, by go_num, ⟨HZK.out.1, HZK.out.2.1, HZK.out.2.2, LX.out, by rw [← HC3.out]; exact KX10.out, R9.out.nb, R9.out.lo⟩⟩
                  case measure => simp [intOf]; omega
                · simp only [if_true] at cz9
                  go_upto_region 22 with fail
                  go_wp2_with (first | (refine wpList_load_row rfl 87 _ rfl bz rfl 87 c3 (0, 0) _ KZ9.out Tryd.underlying87 rfl HI3.out ?_) | (refine wpList_store_to rfl 87 _ _ rfl bx c3 rfl rfl 87 s.c RX9.out HI3.out HZ3.out HO3.out ?_))
                  intro w10 hx hkz
                  have LX := Lib.hid (R9.out.mem.own hx.out R9.out.lo R9.out.nb)
                  have KX10 := Lib.hid hkz
                  clear hx hkz
                  go_wp2_with fail
                  go_roundw
                  case rel => exact ⟨k + 1, z, m3, F7, by omega, by go_num, ⟨HZK.out.1, HZK.out.2.1, HZK.out.2.2, LX.out, by rw [← HC3.out]; exact KX10.out, R9.out.nb, R9.out.lo⟩⟩
                  case measure => simp [intOf]; omega
              · rw [if_neg hin] at HKT
                rw [HKT.out.1, show errV 2 = .iface 140 (.int .i64 (2 : Nat)) from errV_val (by omega)]
                rw [HKT.out.2] at R7
                by_cases hin1 : 1 ≤ fn
                · have hin2 : ¬ ((fn : Int) ≤ 1514) := by omega
                  have hin3 : (1 : Int) ≤ (fn : Int) := by omega
                  go_wp2_with fail
                  go_roundw
                  case rel => exact ⟨k + 1, s, m2, F7, by omega, by go_num, R7.out⟩
                  case measure => simp [intOf]; omega
                · have hin3 : ¬ (1 : Int) ≤ (fn : Int) := by omega
                  go_wp2_with fail
                  go_roundw
                  case rel => exact ⟨k + 1, s, m2, F7, by omega, by go_num, R7.out⟩
                  case measure => simp [intOf]; omega
      · have hlt' : (k : Int) < (nf : Int) := by omega
        have h12' : ¬ (k : Int) < 12 := by omega
        have HSU := Lib.hid (sure16_ok wr (R.out.mem.regs HRG.out).1)
        go_wp2_with fail
        refine (HSU.out).mono ?_
        rintro e w8 ⟨rfl, hb⟩
        go_wp2_with fail
        go_ret
        exact ⟨rfl, R.out.mem.fr.trans (hb.mono R.out.mem.fr.size)⟩
    · have hlt' : ¬ (k : Int) < (nf : Int) := by omega
      have HSU := Lib.hid (sure16_ok wr (R.out.mem.regs HRG.out).1)
      go_wp2_with fail
      refine (HSU.out).mono ?_
      rintro e w8 ⟨rfl, hb⟩
      go_wp2_with fail
      go_ret
      exact ⟨rfl, R.out.mem.fr.trans (hb.mono R.out.mem.fr.size)⟩
theorem law_NicHolds (s : NS) (hs : s.wf) (pw : Option Addr) (lw : List (Nat × Nat)) (cw : Nat) (pf : Option Addr) (nf cf : Nat) (w : World) (HP : PairsL w pw lw) (hmax : lw.length ≤ maxLen) (hnf : nf ≤ maxLen) (HF : FramesLie w pf nf) (hr : RegAt w) :
    Calls Tryd.prog 8 #[.agg s.c, .slice pw lw.length cw, .slice pf nf cf] w fun e w' => e = .returned (.bool true) ∧ Below w.heap.size w w' := by
  by_cases hok : s.p.ok
  · exact holds16_yes s hs pw lw cw pf nf cf w HP hmax hnf HF hr hok
  · exact holds16_no s hs pw lw cw pf nf cf w HP hmax hnf HF hr hok
end Go.Proofs.YtcbjlpkkebcmjaaDoor
