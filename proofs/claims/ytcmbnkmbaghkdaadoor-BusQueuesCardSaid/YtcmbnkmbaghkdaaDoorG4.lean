/-
From a walk to a law's row: a call that answers true and leaves all that lay below as it was, answers as the row says.
Opening arguments: what the model says of a value of a type, cell by cell.
Opening an argument that is a slice of int: its cells, as they stay while the call runs.
No condition.
Opening an argument that is a slice of bool: its cells, as they stay while the call runs.
No condition.
Opening an argument that is a slice of bytes: its bytes, as they stay while the call runs.
No condition.
The listed variable bus.regions alone: a world that meets the row's premise, and what the premise gives a walk.
Opening an argument that is a slice of pairs of uint32: each pair's two cells, as they stay while the call runs.
No condition.
Listed numbers as one function.
No condition.
-/
import Derived.WalkKit
import Derived.ProofKit
import Derived.OpenShut
import Derived.ChangeSame
import Derived.ChangeVars
import Derived.JoinedOf
import Derived.RowKit
import Derived.RowKitTokens
import Derived.LaidLaws
import Derived.LaidHandle
import Derived.Stop.Joined
import Derived.Below
import Derived.SizedLaws
import Derived.Deep.Slices
import Derived.Test.YtcmbnkmbaghkdaaDoorG1
import Derived.Test.YtcmbnkmbaghkdaaDoorRows
import Derived.Lib.LaidTab
namespace Go.Proofs.YtcmbnkmbaghkdaaDoor
open Go.ChangeShapes Go.WideShapes Go.RowKit

theorem trodAll_below {H : Type} {enc : TypeId × Value → H} {P : Program} (hl : laidOutB P = true) {W W' : World} (hb : Below W.heap.size W W') :
    ∀ (ts : List TypeId) (vs : List Value) (ds : List (DataW H)) (ps : List MemPlace), ts.all (fun t => P.readableRec t && decide (t < P.types.size)) = true →
      DataW.TrodAll enc P W 0 (fun _ => true) true ts vs ds ps → DataW.TrodAll enc P W' 0 (fun b => decide (b < W.heap.size)) true ts vs ds ps ∧ ds.length = ts.length
  | [], [], [], _, _, h => ⟨h, rfl⟩
  | [], [], _ :: _, _, _, h => by simp [DataW.TrodAll] at h
  | [], _ :: _, _, _, _, h => by simp [DataW.TrodAll] at h
  | _ :: _, [], _, _, _, h => by simp [DataW.TrodAll] at h
  | _ :: _, _ :: _, [], _, _, h => by simp [DataW.TrodAll] at h
  | t :: ts, v :: vs, d :: ds, ps, hp, h => by
    simp only [List.all_cons, Bool.and_eq_true, decide_eq_true_eq] at hp
    obtain ⟨p, q, h1, h2, rfl⟩ := h
    obtain ⟨r1, r2⟩ := trodAll_below hl hb ts vs ds q (by simpa using hp.2) h2
    refine ⟨⟨p, q, Below.trod hl hp.1.1 hp.1.2 h1 hb ?_, r1, rfl⟩, by simp [r2]⟩
    obtain ⟨m, hm⟩ := h1
    exact DataW.trod_lt m _ _ _ hm

/-- From a walk to the row's own word, for a law whose row lists variables. -/
theorem lift_laid {C : Checked} {os : Os} {f : FuncId} {fn : Func} {spec : ChangeSpec} {tb : TypeId} (L : List (String × DataW Unit)) (own : ownKnob C.prog.godebug = none) (started : os.Started) (noInit : C.prog.inits.idxOf? f = none)
    (hf : C.prog.funcs[f]? = some fn) (hv : spec.vars = []) (hres : fn.resultTypes = #[tb]) (htb : C.prog.underlying tb = some .bool) (hlo : laidOutB C.prog = true)
    (hpar : fn.params.toList.all (fun t => C.prog.readableRec t && decide (t < C.prog.types.size)) = true) {H : Type} {enc : TypeId × Value → H}
    (hspec : ∀ ds : List (DataW H), ds.length = fn.params.toList.length → spec.fn H (ds ++ []) = { results := [.lit (.bool true)], args := ds })
    (witness : ∃ (w : World) (tape : Tape) (i : Input), w.os = os ∧ (w.forCall tape i).Shaped C.prog ∧ i.vars = [] ∧ Input.okWide C.prog (w.forCall tape i) .any w.heap.size f i ∧
      ((spec.pre enc C.prog fn [] false (w.forCall tape i).memory i.args ∧ laidMetH C.prog L (w.forCall tape i).memory) ∧ sizedMet enc C.prog fn (OpenSpec.ofChange spec) false (w.forCall tape i).memory i.args) ∧ ({} : Assume).holds C.prog (lone (Frame.enter C.prog f i.args .normal) [] (w.forCall tape i)))
    (walk : ∀ (W : World) (args : Array Value) (ds : List (DataW H)) (p : List MemPlace), (∃ base, ∀ (j : Nat) t v, fn.params[j]? = some t → args[j]? = some v → Value.okWide C.prog W .any base t v) →
      DataW.TrodAll enc C.prog W 0 (fun _ => true) true fn.params.toList args.toList ds p →
      (DataW.weightsEach C.prog (fn.params.toList ++ spec.plain.varTypes C.prog) (ds ++ [])).all (· ≤ reachBytes) = true → laidMetH C.prog L W →
      Calls C.prog f args W fun e W' => e = .returned (.bool true) ∧ Below W.heap.size W W') :
    ReturnsInHanded {} C os f .any (fun w args => (spec.pre enc C.prog fn [] false w args ∧ laidMetH C.prog L w) ∧ sizedMet enc C.prog fn (OpenSpec.ofChange spec) false w args)
      (spec.post enc C.prog fn false true false false) := by
  refine returnsInHanded_of_change_and (C := C) (X := fun w _ => laidMetH C.prog L w) (fun _ _ _ hh h => h.of_heap hh) own started noInit hf witness ?_
  intro W base args ds gs before hval hW _ hsz hL _
  have hW' := hW
  obtain ⟨p, q, hA, hV, rfl, hfz, hnd⟩ := hW
  rw [hv] at hV
  obtain ⟨rfl, rfl⟩ : gs = [] ∧ q = [] := by
    cases gs with
    | nil => exact ⟨rfl, hV⟩
    | cons g r => exact absurd hV (by intro h; cases h)
  refine (walk W args ds p ⟨base, hval⟩ hA hsz hL).mono fun e W' ⟨he, hb⟩ => ?_
  obtain ⟨hA', hlen⟩ := trodAll_below hlo hb _ _ _ _ hpar hA
  have e1 := hspec ds hlen
  refine ⟨.bool true, he, ds, [], p ++ [], [], p, [], hW', ?_, ?_, ?_, hb.frame _, fun h => by cases h⟩
  · rw [e1, hres]; exact trodAll_mk1 (shut_bool htb true)
  · rw [e1]; exact hA'
  · rw [e1, hv]; rfl
end Go.Proofs.YtcmbnkmbaghkdaaDoor
namespace Go.Proofs.YtcmbnkmbaghkdaaDoor
open Go.ChangeShapes Go.WideShapes Go.RowKit

section
variable {P : Program} {w : World} {r : Reach} {b : Nat}
theorem okWide_cells {t : TypeId} {v : Value} {ts : List TypeId} {fs : Array Field} (hu : P.underlying t = some (.struct fs)) (hC : P.cellsOf t = ts.length) (hct : P.cellTypes P.depth t = some ts)
    (hv : Value.okWide P w r b t v) : ∃ cs : Array Value, v = .agg cs ∧ cs.size = ts.length ∧ ∀ (i : Nat) (u : TypeId), ts[i]? = some u → ∃ x : Value, cs[i]? = some x ∧ Cell.okWide P w r b u x := by
  unfold Value.okWide at hv
  simp only [hu] at hv
  obtain ⟨cs, rfl, hsz, ts', hct', _, hrow⟩ := hv
  obtain rfl : ts = ts' := Option.some.inj (hct.symm.trans hct')
  refine ⟨cs, rfl, hsz.trans hC, fun i u hi => ?_⟩
  have hlt : i < ts.length := (List.getElem?_eq_some_iff.1 hi).1
  have hcs : cs[i]? = some (cs[i]'(by omega)) := Array.getElem?_eq_getElem (by omega)
  obtain ⟨u', hu', hok⟩ := hrow i _ hcs
  rw [Nat.mod_eq_of_lt hlt, hi] at hu'
  obtain rfl := Option.some.inj hu'
  exact ⟨_, hcs, hok⟩
theorem cell_int {u : TypeId} {k : IntKind} {x : Value} (hu : P.underlying u = some (.int k)) (h : Cell.okWide P w r b u x) : ∃ n, x = .int k n ∧ k.has n := by
  unfold Cell.okWide at h
  rw [hu] at h
  cases x <;> simp only [Cell.ok, hu] at h
  obtain ⟨rfl, h⟩ := h
  exact ⟨_, rfl, h⟩
theorem cell_bool {u : TypeId} {x : Value} (hu : P.underlying u = some .bool) (h : Cell.okWide P w r b u x) : ∃ c, x = .bool c := by
  unfold Cell.okWide at h
  rw [hu] at h
  cases x <;> simp only [Cell.ok, hu] at h
  exact ⟨_, rfl⟩
theorem has_u32 {n : Int} (h : IntKind.u32.has n) : ∃ m : Nat, n = m ∧ m < 4294967296 := by
  simp only [IntKind.has, IntKind.min, IntKind.max, IntKind.signed, IntKind.bits] at h
  simp at h
  exact ⟨n.toNat, by omega, by omega⟩
theorem cell_u32 {u : TypeId} {x : Value} (hu : P.underlying u = some (.int .u32)) (h : Cell.okWide P w r b u x) : ∃ m : Nat, x = .int .u32 m ∧ m < 4294967296 := by
  obtain ⟨n, rfl, hn⟩ := cell_int hu h
  obtain ⟨m, rfl, hm⟩ := has_u32 hn
  exact ⟨m, rfl, hm⟩
theorem open_u32 {t : TypeId} {v : Value} (hu : P.underlying t = some (.int .u32)) (hv : Value.okWide P w r b t v) : ∃ m : Nat, v = .int .u32 m ∧ m < 4294967296 := by
  unfold Value.okWide at hv
  simp only [hu] at hv
  exact cell_u32 hu hv
theorem open_i64 {t : TypeId} {v : Value} (hu : P.underlying t = some (.int .i64)) (hv : Value.okWide P w r b t v) : ∃ n : Int, v = .int .i64 n ∧ -9223372036854775808 ≤ n ∧ n ≤ 9223372036854775807 := by
  unfold Value.okWide at hv
  simp only [hu] at hv
  obtain ⟨n, rfl, hn⟩ := cell_int hu hv
  simp only [IntKind.has, IntKind.min, IntKind.max, IntKind.signed, IntKind.bits] at hn
  simp at hn
  exact ⟨n, rfl, by omega, by omega⟩
end
end Go.Proofs.YtcmbnkmbaghkdaaDoor
namespace Go.Proofs.YtcmbnkmbaghkdaaDoor
open Go.ChangeShapes Go.WideShapes Go.RowKit

def IntsAt (w : World) (p : Option Addr) (n : Nat) : Prop := ∀ k, k < n → ∃ (b o : Nat) (K : Int), p = some ⟨b, o, none⟩ ∧ -9223372036854775808 ≤ K ∧ K ≤ 9223372036854775807 ∧
  ∀ W, Below w.heap.size w W → W.cell? ⟨b, o + k, none⟩ = some (.int .i64 K)
theorem ints_wf_i64 {n : Int} (h : (Lit.int .i64 n).wf = true) : -9223372036854775808 ≤ n ∧ n ≤ 9223372036854775807 := by
  simp [Lit.wf, IntKind.min, IntKind.max, IntKind.signed, IntKind.bits] at h
  exact ⟨by omega, by omega⟩
theorem open_ints {H : Type} {enc : TypeId × Value → H} {P : Program} {w : World} {r : Reach} {b0 : Nat} {t e : TypeId} {v : Value} {d : DataW H} {ps : List MemPlace}
    (ht : P.underlying t = some (.slice e)) (he : P.underlying e = some (.int .i64)) (hce : P.cellsOf e = 1)
    (hval : Value.okWide P w r b0 t v) (hd : DataW.Trod enc P w 0 (fun _ => true) true t v d ps) :
    ∃ (p : Option Addr) (n cap : Nat), v = .slice p n cap ∧ n ≤ cap ∧ cap ≤ maxLen ∧ IntsAt w p n := by
  obtain ⟨a, len, cap, rfl⟩ := okWide_slice ht hval
  obtain ⟨fuel, hf⟩ := hd
  rcases Go.Deep.open_slice ht hf with ⟨hcs, _⟩ | ⟨a', len', cap', m, n, D, Pl, hcs, _, hl, hm, hmm, _, hx⟩
  · simp [Value.cells] at hcs
    obtain ⟨rfl, rfl, rfl⟩ := hcs
    exact ⟨none, 0, 0, rfl, by omega, by omega, fun k hk => absurd hk (by omega)⟩
  · simp [Value.cells] at hcs
    obtain ⟨rfl, rfl, rfl⟩ := hcs
    refine ⟨some a', len, cap, rfl, hl, hm, fun k hk => ?_⟩
    simp only [if_true] at hmm
    have get : ∀ j, j < len → ∃ K : Int, w.cell? (a'.add (j * 1)) = some (.int .i64 K) ∧ -9223372036854775808 ≤ K ∧ K ≤ 9223372036854775807 := fun j hj => by
      obtain ⟨cs', h1, h2⟩ := hx j (by omega)
      rw [hce] at h1
      obtain ⟨_, hlen, hcell⟩ := World.cells?_some h1
      match cs', hlen with
      | [c0], _ =>
        obtain ⟨K, e0, _, w0⟩ := DataW.trod_int he h2
        simp at e0
        subst e0
        have c0 := hcell 0 (by omega)
        obtain ⟨k1, k2⟩ := ints_wf_i64 w0
        refine ⟨K, ?_, k1, k2⟩
        have e : (a'.add (j * 1)).add 0 = a'.add (j * 1) := by simp [Addr.add]
        rw [e] at c0
        exact c0.trans rfl
    obtain ⟨b, o, spot⟩ := a'
    have hs : spot = none := by
      obtain ⟨K0, g0, _⟩ := get 0 (by omega)
      have := World.cell?_spot g0
      simpa [Addr.add] using this
    subst hs
    obtain ⟨K, c0, k1, k2⟩ := get k hk
    rw [add_plain, Nat.mul_one] at c0
    have hb := World.block_lt_of_cell? _ _ c0
    exact ⟨b, o, K, rfl, k1, k2, fun W hW => (hW.cell hb).trans c0⟩
end Go.Proofs.YtcmbnkmbaghkdaaDoor
namespace Go.Proofs.YtcmbnkmbaghkdaaDoor
open Go.ChangeShapes Go.WideShapes Go.RowKit

def BoolsArg (w : World) (p : Option Addr) (n : Nat) : Prop := ∀ k, k < n → ∃ (b o : Nat) (v : Bool), p = some ⟨b, o, none⟩ ∧ ∀ W, Below w.heap.size w W → W.cell? ⟨b, o + k, none⟩ = some (.bool v)
theorem open_boolsarg {H : Type} {enc : TypeId × Value → H} {P : Program} {w : World} {r : Reach} {b0 : Nat} {t e : TypeId} {v : Value} {d : DataW H} {ps : List MemPlace}
    (ht : P.underlying t = some (.slice e)) (he : P.underlying e = some .bool) (hce : P.cellsOf e = 1)
    (hval : Value.okWide P w r b0 t v) (hd : DataW.Trod enc P w 0 (fun _ => true) true t v d ps) :
    ∃ (p : Option Addr) (n cap : Nat), v = .slice p n cap ∧ n ≤ cap ∧ cap ≤ maxLen ∧ BoolsArg w p n := by
  obtain ⟨a, len, cap, rfl⟩ := okWide_slice ht hval
  obtain ⟨fuel, hf⟩ := hd
  rcases Go.Deep.open_slice ht hf with ⟨hcs, _⟩ | ⟨a', len', cap', m, n, D, Pl, hcs, _, hl, hm, hmm, _, hx⟩
  · simp [Value.cells] at hcs
    obtain ⟨rfl, rfl, rfl⟩ := hcs
    exact ⟨none, 0, 0, rfl, by omega, by omega, fun k hk => absurd hk (by omega)⟩
  · simp [Value.cells] at hcs
    obtain ⟨rfl, rfl, rfl⟩ := hcs
    refine ⟨some a', len, cap, rfl, hl, hm, fun k hk => ?_⟩
    simp only [if_true] at hmm
    have one : ∀ k, k < len → ∃ x : Bool, w.cell? ((a'.add (k * 1)).add 0) = some (.bool x) := fun k hk => by
      obtain ⟨cs', h1, h2⟩ := hx k (by omega)
      rw [hce] at h1
      obtain ⟨_, hlen, hcell⟩ := World.cells?_some h1
      obtain ⟨x, rfl, _⟩ := DataW.trod_bool he h2
      exact ⟨x, (hcell 0 (by omega)).trans rfl⟩
    obtain ⟨b, o, spot⟩ := a'
    have hs : spot = none := by
      obtain ⟨x, h0⟩ := one 0 (by omega)
      have := World.cell?_spot h0
      simpa [Addr.add] using this
    subst hs
    obtain ⟨x, c0⟩ := one k hk
    rw [add_plain, add_plain] at c0
    simp only [Nat.add_zero, Nat.mul_one] at c0
    have hb := World.block_lt_of_cell? _ _ c0
    exact ⟨b, o, x, rfl, fun W hW => (hW.cell hb).trans c0⟩
end Go.Proofs.YtcmbnkmbaghkdaaDoor
namespace Go.Proofs.YtcmbnkmbaghkdaaDoor
open Go.ChangeShapes Go.WideShapes Go.RowKit

def BytesLie (w : World) (ao : Option Addr) (l : List UInt8) : Prop := l ≠ [] → ∃ b o, ao = some ⟨b, o, none⟩ ∧ b < w.heap.size ∧ ∀ W, Below w.heap.size w W → ∀ j x, l[j]? = some x → W.cell? ⟨b, o + j, none⟩ = some (B8 x)
theorem bytes_wf_u8 {n : Int} (h : (Lit.int .u8 n).wf = true) : ∃ x : UInt8, n = (x.toNat : Int) := by
  simp [Lit.wf, IntKind.min, IntKind.max, IntKind.signed, IntKind.bits] at h
  refine ⟨UInt8.ofNat n.toNat, ?_⟩
  rw [UInt8.toNat_ofNat']
  omega
theorem open_bytes {H : Type} {enc : TypeId × Value → H} {P : Program} {w : World} {r : Reach} {b0 : Nat} {t e : TypeId} {v : Value} {d : DataW H} {ps : List MemPlace}
    (ht : P.underlying t = some (.slice e)) (he : P.underlying e = some (.int .u8)) (hce : P.cellsOf e = 1)
    (hval : Value.okWide P w r b0 t v) (hd : DataW.Trod enc P w 0 (fun _ => true) true t v d ps) :
    ∃ (p : Option Addr) (l : List UInt8) (cap : Nat), v = .slice p l.length cap ∧ l.length ≤ cap ∧ cap ≤ maxLen ∧ BytesLie w p l := by
  obtain ⟨a, len, cap, rfl⟩ := okWide_slice ht hval
  obtain ⟨fuel, hf⟩ := hd
  rcases Go.Deep.open_slice ht hf with ⟨hcs, _⟩ | ⟨a', len', cap', m, n, D, Pl, hcs, _, hl, hm, hmm, _, hx⟩
  · simp [Value.cells] at hcs
    obtain ⟨rfl, rfl, rfl⟩ := hcs
    exact ⟨none, [], 0, rfl, by simp, by omega, fun h => absurd rfl h⟩
  · simp [Value.cells] at hcs
    obtain ⟨rfl, rfl, rfl⟩ := hcs
    simp only [if_true] at hmm
    have get : ∀ j, ∃ x : UInt8, j < len → w.cell? (a'.add (j * 1)) = some (B8 x) := fun j => by
      by_cases hj : j < len
      · obtain ⟨cs', h1, h2⟩ := hx j (by omega)
        rw [hce] at h1
        obtain ⟨_, hlen, hcell⟩ := World.cells?_some h1
        match cs', hlen with
        | [c0], _ =>
          obtain ⟨K, e0, _, w0⟩ := DataW.trod_int he h2
          simp at e0
          subst e0
          have c0 := hcell 0 (by omega)
          obtain ⟨x, rfl⟩ := bytes_wf_u8 w0
          refine ⟨x, fun _ => ?_⟩
          have e : (a'.add (j * 1)).add 0 = a'.add (j * 1) := by simp [Addr.add]
          rw [e] at c0
          exact c0.trans rfl
      · exact ⟨0, fun h => absurd h hj⟩
    obtain ⟨f, hfx⟩ := Classical.axiomOfChoice get
    obtain ⟨b, o, spot⟩ := a'
    refine ⟨some ⟨b, o, spot⟩, (List.range len).map f, cap, by simp, by simpa using hl, hm, fun hne => ?_⟩
    have hl0 : 0 < len := by
      rcases Nat.eq_zero_or_pos len with h | h
      · subst h; exact absurd rfl hne
      · exact h
    have hs : spot = none := by
      have := World.cell?_spot (hfx 0 hl0)
      simpa [Addr.add] using this
    subst hs
    have hc0 := hfx 0 hl0
    rw [add_plain, Nat.zero_mul] at hc0
    have hb := World.block_lt_of_cell? _ _ hc0
    refine ⟨b, o, rfl, hb, fun W hW j x hj => ?_⟩
    have hj' : j < len := by have := (List.getElem?_eq_some_iff.1 hj).1; simpa using this
    have e : f j = x := by simpa [hj'] using hj
    have c := hfx j hj'
    rw [add_plain, Nat.mul_one, e] at c
    exact (hW.cell (p := ⟨b, o + j, none⟩) hb).trans c
end Go.Proofs.YtcmbnkmbaghkdaaDoor
namespace Go.Proofs.YtcmbnkmbaghkdaaDoor
open Go.ChangeShapes Go.WideShapes Go.RowKit

theorem own : ownKnob Tryd.prog.godebug = none := by kernel_rfl
theorem laidOut : laidOutB Tryd.prog = true := by kernel_rfl
def regionCells : Array Value := #[.int .u32 0, .int .u32 0, .int .i64 0, .int .u32 33554432, .int .u32 65536, .int .i64 4, .int .u32 201326592, .int .u32 4194304, .int .i64 4, .int .u32 268435456, .int .u32 8, .int .i64 1, .int .u32 268500992, .int .u32 256, .int .i64 4,
  .int .u32 268566528, .int .u32 512, .int .i64 4, .int .u32 268632064, .int .u32 512, .int .i64 4, .int .u32 2147483648, .int .u32 0, .int .i64 0]
/-- A world in which bus.regions holds what the text lays. -/
noncomputable def laidWorld (os : Os) : World :=
  let w0 := World.holding Tryd.prog os ⟨#[], #[], []⟩
  let put (cs : Array Value) (o : Obj) : Obj := match o with | .cells _ t frozen => .cells cs t frozen | o => o
  { w0 with heap := w0.heap.modify 0 (put regionCells) }
theorem laid_reg (os : Os) (args : Array Value) : laidMetH Tryd.prog [("pinnace/bus.regions", Rows.laid_pinnace_bus_regions)] ((laidWorld os).forCall (fun _ _ => 0) ⟨#[], args, []⟩).memory :=
  laidMetH_of_parts (laidMet_of_run' 8 (by kernel_rfl) (by kernel_rfl)) (by kernel_rfl)

theorem reg_named : Tryd.prog.globalNamed "pinnace/bus.regions" = some 0 := by kernel_rfl
theorem reg_type : (Tryd.prog.globals[0]?).map (·.type) = some 172 := by kernel_rfl
theorem reg_cells : Tryd.prog.cellsOf 169 = 3 := by kernel_rfl
theorem u32_cells : Tryd.prog.cellsOf 25 = 1 := by kernel_rfl
theorem int_cells : Tryd.prog.cellsOf 3 = 1 := by kernel_rfl
theorem regs_cells : Tryd.prog.cellsOf 172 = 24 := by kernel_rfl
theorem len3 {α : Type} {l : List α} (h : l.length = 3) : ∃ a b c, l = [a, b, c] := by
  match l, h with
  | [a, b, c], _ => exact ⟨a, b, c, rfl⟩
theorem triple_of_trod {H : Type} {enc : TypeId × Value → H} {w : World} {fuel base : Nat} {sp : Nat → Bool} {held : Bool} {cs : List Value} {x : DataW H × List MemPlace} {a b c : Int}
    (h : DataW.trod enc Tryd.prog w base sp held fuel 169 cs = some x) (hx : x.1 = .agg [.lit (.int .u32 a), .lit (.int .u32 b), .lit (.int .i64 c)]) :
    cs = [.int .u32 a, .int .u32 b, .int .i64 c] := by
  obtain ⟨xs, n, _, rfl, hl, hlen, hf⟩ := DataW.trod_struct Tryd.underlying169 h
  rw [reg_cells] at hl
  obtain ⟨v0, v1, v2, rfl⟩ := len3 hl
  obtain ⟨y0, y1, y2, rfl⟩ := len3 hlen
  have h0 : DataW.trod enc Tryd.prog w base sp held n 25 (([v0, v1, v2].drop 0).take (Tryd.prog.cellsOf 25)) = some y0 := hf 0 _ rfl
  have h1 : DataW.trod enc Tryd.prog w base sp held n 25 (([v0, v1, v2].drop 1).take (Tryd.prog.cellsOf 25)) = some y1 := hf 1 _ rfl
  have h2 : DataW.trod enc Tryd.prog w base sp held n 3 (([v0, v1, v2].drop 2).take (Tryd.prog.cellsOf 3)) = some y2 := hf 2 _ rfl
  rw [u32_cells] at h0 h1
  rw [int_cells] at h2
  obtain ⟨n0, c0, d0, _⟩ := DataW.trod_int Tryd.underlying25 h0
  obtain ⟨n1, c1, d1, _⟩ := DataW.trod_int Tryd.underlying25 h1
  obtain ⟨n2, c2, d2, _⟩ := DataW.trod_int Tryd.underlying3 h2
  simp at c0 c1 c2
  subst c0 c1 c2 d0 d1 d2
  simpa using hx

theorem reg_of_met {W : World} (h : laidMet Tryd.prog [("pinnace/bus.regions", Rows.laid_pinnace_bus_regions)] W) : RegAt W := by
  obtain ⟨ps, ⟨g', t', cs, fuel, p, q, hg', ht', hvar, hd, _, _⟩, _⟩ := h
  obtain rfl := Option.some.inj (reg_named.symm.trans hg')
  obtain rfl := Option.some.inj (reg_type.symm.trans ht')
  obtain ⟨xs, m, _, hx, hl, hlen, hf⟩ := DataW.trod_array Tryd.underlying172 hd
  rw [reg_cells] at hf
  rw [regs_cells] at hl
  have hxs : xs.map (·.1) = _ := (DataW.agg.inj (congrArg Prod.fst hx)).symm
  have hcell : ∀ i, i < 24 → cs[i]? = regRow[i]? := by
    intro i hi
    have get : ∀ (j : Nat) (a b c : Int), j < 8 → (xs.map (·.1))[j]? = some (.agg [.lit (.int .u32 a), .lit (.int .u32 b), .lit (.int .i64 c)]) → cs[j * 3]? = some (.int .u32 a) ∧ cs[j * 3 + 1]? = some (.int .u32 b) ∧ cs[j * 3 + 2]? = some (.int .i64 c) := by
      intro j a b c hj hm
      simp only [List.getElem?_map, Option.map_eq_some_iff] at hm
      obtain ⟨x, hx1, hx2⟩ := hm
      have hfj := hf j hj
      rw [hx1] at hfj
      have e := triple_of_trod hfj hx2
      have e0 := congrArg (·[0]?) e
      have e1 := congrArg (·[1]?) e
      have e2 := congrArg (·[2]?) e
      simp at e0 e1 e2
      exact ⟨e0, e1, e2⟩
    obtain ⟨a0, b0, c0⟩ := get 0 0 0 0 (by omega) (by rw [hxs]; rfl)
    obtain ⟨a1, b1, c1⟩ := get 1 33554432 65536 4 (by omega) (by rw [hxs]; rfl)
    obtain ⟨a2, b2, c2⟩ := get 2 201326592 4194304 4 (by omega) (by rw [hxs]; rfl)
    obtain ⟨a3, b3, c3⟩ := get 3 268435456 8 1 (by omega) (by rw [hxs]; rfl)
    obtain ⟨a4, b4, c4⟩ := get 4 268500992 256 4 (by omega) (by rw [hxs]; rfl)
    obtain ⟨a5, b5, c5⟩ := get 5 268566528 512 4 (by omega) (by rw [hxs]; rfl)
    obtain ⟨a6, b6, c6⟩ := get 6 268632064 512 4 (by omega) (by rw [hxs]; rfl)
    obtain ⟨a7, b7, c7⟩ := get 7 2147483648 0 0 (by omega) (by rw [hxs]; rfl)
    have : i = 0 ∨ i = 1 ∨ i = 2 ∨ i = 3 ∨ i = 4 ∨ i = 5 ∨ i = 6 ∨ i = 7 ∨ i = 8 ∨ i = 9 ∨ i = 10 ∨ i = 11 ∨ i = 12 ∨ i = 13 ∨ i = 14 ∨ i = 15 ∨ i = 16 ∨ i = 17 ∨ i = 18 ∨ i = 19 ∨ i = 20 ∨ i = 21 ∨ i = 22 ∨ i = 23 := by omega
    rcases this with rfl | rfl | rfl | rfl | rfl | rfl | rfl | rfl | rfl | rfl | rfl | rfl | rfl | rfl | rfl | rfl | rfl | rfl | rfl | rfl | rfl | rfl | rfl | rfl
    · exact a0.trans rfl
    · exact b0.trans rfl
    · exact c0.trans rfl
    · exact a1.trans rfl
    · exact b1.trans rfl
    · exact c1.trans rfl
    · exact a2.trans rfl
    · exact b2.trans rfl
    · exact c2.trans rfl
    · exact a3.trans rfl
    · exact b3.trans rfl
    · exact c3.trans rfl
    · exact a4.trans rfl
    · exact b4.trans rfl
    · exact c4.trans rfl
    · exact a5.trans rfl
    · exact b5.trans rfl
    · exact c5.trans rfl
    · exact a6.trans rfl
    · exact b6.trans rfl
    · exact c6.trans rfl
    · exact a7.trans rfl
    · exact b7.trans rfl
    · exact c7.trans rfl
  have hc : ∀ i, i < 24 → W.cell? ⟨0, i, none⟩ = regRow[i]? := fun i hi => by rw [World.var?_cell reg_named hvar i]; exact hcell i hi
  exact ⟨block_lt_of_cell (a := ⟨0, 0, none⟩) (hc 0 (by omega)), hc⟩

theorem reg_of_laid {W : World} (h : laidMetH Tryd.prog [("pinnace/bus.regions", Rows.laid_pinnace_bus_regions)] W) : RegAt W :=
  reg_of_met (show laidMet Tryd.prog [("pinnace/bus.regions", Rows.laid_pinnace_bus_regions)] W from h)
end Go.Proofs.YtcmbnkmbaghkdaaDoor
namespace Go.Proofs.YtcmbnkmbaghkdaaDoor
open Go.ChangeShapes Go.WideShapes Go.RowKit

/-- The pairs of a slice, at their places; they stay while the call runs. -/
def PairsAt (w : World) (p : Option Addr) (n : Nat) : Prop := ∀ k, k < n → ∃ (b o A B : Nat), p = some ⟨b, o, none⟩ ∧ A < 4294967296 ∧ B < 4294967296 ∧
  ∀ W, Below w.heap.size w W → W.cell? ⟨b, o + k * 2, none⟩ = some (.int .u32 A) ∧ W.cell? ⟨b, o + k * 2 + 1, none⟩ = some (.int .u32 B)
theorem wf_u32 {n : Int} (h : (Lit.int .u32 n).wf = true) : ∃ m : Nat, n = m ∧ m < 4294967296 := by
  simp [Lit.wf, IntKind.min, IntKind.max, IntKind.signed, IntKind.bits] at h
  exact ⟨n.toNat, by omega, by omega⟩
theorem pair_cells_u32 {H : Type} {enc : TypeId × Value → H} {P : Program} {w : World} {base : Nat} {spare : Nat → Bool} {held : Bool} {fuel : Nat} {t e : TypeId} {cs : List Value} {x : DataW H × List MemPlace}
    (ht : P.underlying t = some (.array 2 e)) (he : P.underlying e = some (.int .u32)) (hc : P.cellsOf e = 1) (h2 : P.cellsOf t = 2) (h : DataW.trod enc P w base spare held fuel t cs = some x) :
    ∃ A B : Nat, cs = [.int .u32 A, .int .u32 B] ∧ A < 4294967296 ∧ B < 4294967296 := by
  obtain ⟨xs, m, _, _, hl, hxl, hf⟩ := DataW.trod_array ht h
  rw [h2] at hl
  match cs, hl with
  | [c0, c1], _ =>
    have f0 := hf 0 (by omega)
    have f1 := hf 1 (by omega)
    rw [List.getElem?_eq_getElem (by omega)] at f0 f1
    simp only [hc, Nat.zero_mul, Nat.one_mul, List.drop_zero, List.drop_succ_cons, List.take_succ_cons, List.take_zero] at f0 f1
    obtain ⟨a, e0, _, w0⟩ := DataW.trod_int he f0
    obtain ⟨b, e1, _, w1⟩ := DataW.trod_int he f1
    obtain ⟨A, rfl, hA⟩ := wf_u32 w0
    obtain ⟨B, rfl, hB⟩ := wf_u32 w1
    simp at e0 e1
    subst e0 e1
    exact ⟨A, B, rfl, hA, hB⟩
theorem open_pairs {H : Type} {enc : TypeId × Value → H} {P : Program} {w : World} {r : Reach} {b0 : Nat} {t e u : TypeId} {v : Value} {d : DataW H} {ps : List MemPlace}
    (ht : P.underlying t = some (.slice e)) (he : P.underlying e = some (.array 2 u)) (hu : P.underlying u = some (.int .u32)) (hcu : P.cellsOf u = 1) (hce : P.cellsOf e = 2)
    (hval : Value.okWide P w r b0 t v) (hd : DataW.Trod enc P w 0 (fun _ => true) true t v d ps) :
    ∃ (p : Option Addr) (n cap : Nat), v = .slice p n cap ∧ n ≤ cap ∧ cap ≤ maxLen ∧ PairsAt w p n := by
  obtain ⟨a, len, cap, rfl⟩ := okWide_slice ht hval
  obtain ⟨fuel, hf⟩ := hd
  rcases Go.Deep.open_slice ht hf with ⟨hcs, _⟩ | ⟨a', len', cap', m, n, D, Pl, hcs, _, hl, hm, hmm, _, hx⟩
  · simp [Value.cells] at hcs
    obtain ⟨rfl, rfl, rfl⟩ := hcs
    exact ⟨none, 0, 0, rfl, by omega, by omega, fun k hk => absurd hk (by omega)⟩
  · simp [Value.cells] at hcs
    obtain ⟨rfl, rfl, rfl⟩ := hcs
    refine ⟨some a', len, cap, rfl, hl, hm, fun k hk => ?_⟩
    simp only [if_true] at hmm
    obtain ⟨cs', h1, h2⟩ := hx k (by omega)
    rw [hce] at h1
    obtain ⟨_, hlen, hcell⟩ := World.cells?_some h1
    obtain ⟨A, B, rfl, hA, hB⟩ := pair_cells_u32 he hu hcu hce h2
    have c0 := hcell 0 (by omega)
    have c1 := hcell 1 (by omega)
    obtain ⟨b, o, spot⟩ := a'
    have hs : spot = none := by
      obtain ⟨cs0, g1, g2⟩ := hx 0 (by omega)
      rw [hce] at g1
      obtain ⟨_, _, gcell⟩ := World.cells?_some g1
      obtain ⟨A0, B0, rfl, _, _⟩ := pair_cells_u32 he hu hcu hce g2
      have := World.cell?_spot ((gcell 0 (by omega)).trans (by rfl : _ = some (Value.int .u32 (A0 : Nat))))
      simpa [Addr.add] using this
    subst hs
    rw [add_plain, add_plain] at c0 c1
    simp only [Nat.add_zero] at c0
    have hb := World.block_lt_of_cell? _ _ (c0.trans (by rfl : _ = some (Value.int .u32 (A : Nat))))
    exact ⟨b, o, A, B, rfl, hA, hB, fun W hW => ⟨(hW.cell hb).trans (c0.trans rfl), (hW.cell (p := ⟨b, o + k * 2 + 1, none⟩) hb).trans (c1.trans rfl)⟩⟩
end Go.Proofs.YtcmbnkmbaghkdaaDoor
namespace Go.Proofs.YtcmbnkmbaghkdaaDoor
open Go.RowKit

theorem IntsAt.fn {w : World} {p : Option Addr} {n : Nat} (h : IntsAt w p n) : ∃ (K : Nat → Int), ∀ k, k < n → ∃ b o, p = some ⟨b, o, none⟩ ∧ ∀ W, Below w.heap.size w W → W.cell? ⟨b, o + k, none⟩ = some (.int .i64 (K k)) := by
  have key : ∀ k, ∃ x : Int, k < n → ∃ b o, p = some ⟨b, o, none⟩ ∧ ∀ W, Below w.heap.size w W → W.cell? ⟨b, o + k, none⟩ = some (.int .i64 x) := by
    intro k
    by_cases hk : k < n
    · obtain ⟨b, o, K, hp, _, _, hc⟩ := h k hk
      exact ⟨K, fun _ => ⟨b, o, hp, hc⟩⟩
    · exact ⟨0, fun h => absurd h hk⟩
  obtain ⟨x, hx⟩ := Classical.axiomOfChoice key
  exact ⟨x, hx⟩
end Go.Proofs.YtcmbnkmbaghkdaaDoor
