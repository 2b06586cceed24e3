/-
Both memories of a law: what they hold behind words laid in.
No condition.
-/
import Derived.Test.YtcakcfeipfjmpaaDoorRefNew
import Derived.Test.YtcakcfeipfjmpaaDoorLawBase
import Derived.Test.YtcakcfeipfjmpaaDoorPairs
namespace Go.Proofs.YtcakcfeipfjmpaaDoor
open Go.RowKit

def lay1 (m : Mm) (x : Nat × Nat) : Mm := m.store (x.1 % 8192 / 4 * 4) 4 x.2
def layL (l : List (Nat × Nat)) : Mm := l.foldl lay1 (Mm.new 2)
theorem layL_nil : layL [] = Mm.new 2 := rfl
theorem layL_snoc (l : List (Nat × Nat)) (x : Nat × Nat) : layL (l ++ [x]) = lay1 (layL l) x := by unfold layL; rw [List.foldl_append]; rfl
theorem layL_n (l : List (Nat × Nat)) : (layL l).n = 2 := by
  unfold layL
  suffices h : ∀ m : Mm, m.n = 2 → (l.foldl lay1 m).n = 2 from h _ rfl
  induction l with
  | nil => exact fun m h => h
  | cons x t ih => exact fun m h => ih _ h
/-- The pairs of a slice are these. -/
def PairsL (w : World) (p : Option Addr) (l : List (Nat × Nat)) : Prop := ∀ (k A B : Nat), l[k]? = some (A, B) → A < 4294967296 ∧ B < 4294967296 ∧ ∃ b o, p = some ⟨b, o, none⟩ ∧
  ∀ W, Below w.heap.size w W → W.cell? ⟨b, o + k * 2, none⟩ = some (.int .u32 A) ∧ W.cell? ⟨b, o + k * 2 + 1, none⟩ = some (.int .u32 B)
theorem PairsAt.list {w : World} {p : Option Addr} {n : Nat} (h : PairsAt w p n) : ∃ l, l.length = n ∧ PairsL w p l := by
  have key : ∀ k, ∃ x : Nat × Nat, k < n → x.1 < 4294967296 ∧ x.2 < 4294967296 ∧ ∃ b o, p = some ⟨b, o, none⟩ ∧ ∀ W, Below w.heap.size w W → W.cell? ⟨b, o + k * 2, none⟩ = some (.int .u32 x.1) ∧ W.cell? ⟨b, o + k * 2 + 1, none⟩ = some (.int .u32 x.2) := by
    intro k
    by_cases hk : k < n
    · obtain ⟨b, o, A, B, hp, hA, hB, hc⟩ := h k hk
      exact ⟨(A, B), fun _ => ⟨hA, hB, b, o, hp, hc⟩⟩
    · exact ⟨(0, 0), fun h => absurd h hk⟩
  obtain ⟨x, hx⟩ := Classical.axiomOfChoice key
  refine ⟨(List.range n).map x, by simp, fun k A B hk => ?_⟩
  have hkn : k < n := by have := (List.getElem?_eq_some_iff.1 hk).1; simpa using this
  have e : x k = (A, B) := by simpa [hkn] using hk
  have := hx k hkn
  rw [e] at this
  exact this
/-- The document's memory beside the program's. -/
structure RefF (W : World) (B : Nat) (v : Value) (m : Mm) (F : Nat → Prop) : Prop where
  n1 : 1 ≤ m.n
  n2 : m.n ≤ 16384
  at_ : ∃ b1 c1 b2 c2, (v = .agg (refC b1 (4096 * m.n) c1 b2 m.n c2 m.wr) ∧ 4096 * m.n ≤ c1) ∧ B ≤ b1 ∧ B ≤ b2 ∧ ¬ F b1 ∧ ¬ F b2 ∧ Row W b1 5 (4096 * m.n) (cellU m.f) ∧ Row W b2 4 m.n (cellT m.d)
theorem RefF.ref {W : World} {B : Nat} {v : Value} {m : Mm} {F : Nat → Prop} (h : RefF W B v m F) : RefAt W B v m := by
  obtain ⟨n1, n2, b1, c1, b2, c2, ⟨rfl, hcc⟩, h1, h2, h3, h4, h5, h6⟩ := h
  exact ⟨n1, n2, b1, c1, b2, c2, ⟨rfl, hcc⟩, h1, h2, h5, h6⟩
theorem RefF.step {W W' : World} {B : Nat} {v : Value} {m : Mm} {F F' : Nat → Prop} (h : RefF W B v m F) (hs : MemStep F F' W W') : RefF W' B v m F' := by
  obtain ⟨n1, n2, b1, c1, b2, c2, ⟨rfl, hcc⟩, h1, h2, h3, h4, h5, h6⟩ := h
  exact ⟨n1, n2, b1, c1, b2, c2, ⟨rfl, hcc⟩, h1, h2, hs.off h5.lt h3, hs.off h6.lt h4, h5.step hs h3, h6.step hs h4⟩
theorem RefF.below {W W' : World} {B : Nat} {v : Value} {m : Mm} {F : Nat → Prop} (h : RefF W B v m F) (hb : Below W.heap.size W W') : RefF W' B v m F := by
  obtain ⟨n1, n2, b1, c1, b2, c2, ⟨rfl, hcc⟩, h1, h2, h3, h4, h5, h6⟩ := h
  exact ⟨n1, n2, b1, c1, b2, c2, ⟨rfl, hcc⟩, h1, h2, h3, h4, h5.below hb, h6.below hb⟩
theorem RefF.kx {W W' : World} {B : Nat} {v : Value} {m : Mm} {F X : Nat → Prop} (h : RefF W B v m F) (hb : KX X W W') (hX : ∀ k, X k → F k ∨ k < B) : RefF W' B v m F := by
  obtain ⟨n1, n2, b1, c1, b2, c2, ⟨rfl, hcc⟩, h1, h2, h3, h4, h5, h6⟩ := h
  exact ⟨n1, n2, b1, c1, b2, c2, ⟨rfl, hcc⟩, h1, h2, h3, h4, h5.kx hb (fun hx => (hX _ hx).elim h3 (by omega)), h6.kx hb (fun hx => (hX _ hx).elim h4 (by omega))⟩
theorem RefF.of {W : World} {B B' : Nat} {v : Value} {m : Mm} {F : Nat → Prop} (h : RefAt W B v m) (hF : ∀ k, F k → k < B) (hB : B' ≤ B) : RefF W B' v m F := by
  obtain ⟨n1, n2, b1, c1, b2, c2, ⟨rfl, hcc⟩, h1, h2, h5, h6⟩ := h
  exact ⟨n1, n2, b1, c1, b2, c2, ⟨rfl, hcc⟩, by omega, by omega, fun hf => by have := hF _ hf; omega, fun hf => by have := hF _ hf; omega, h5, h6⟩
theorem RefF.weak {W : World} {B : Nat} {v : Value} {m : Mm} {F F' : Nat → Prop} (h : RefF W B v m F) (hF : ∀ k, F' k → F k) : RefF W B v m F' := by
  obtain ⟨n1, n2, b1, c1, b2, c2, ⟨rfl, hcc⟩, h1, h2, h3, h4, h5, h6⟩ := h
  exact ⟨n1, n2, b1, c1, b2, c2, ⟨rfl, hcc⟩, h1, h2, fun h => h3 (hF _ h), fun h => h4 (hF _ h), h5, h6⟩
theorem RefF.form {W : World} {B : Nat} {v : Value} {m : Mm} {F : Nat → Prop} (h : RefF W B v m F) : ∃ C, v = .agg C ∧ C.size = 3 ∧ C.all (·.oneCell') = true := by
  obtain ⟨n1, n2, b1, c1, b2, c2, ⟨rfl, _⟩, _⟩ := h
  exact ⟨_, rfl, rfl, refC_one _ _ _ _ _ _ _⟩
theorem RefF.keepLow {W W' : World} {B : Nat} {v : Value} {m : Mm} {F : Nat → Prop} (h : RefF W (B + 1) v m F) (hb : KX (fun k => k = B) W W') : RefF W' B v m F := by
  obtain ⟨n1, n2, b1, c1, b2, c2, ⟨rfl, hcc⟩, h1, h2, h3, h4, h5, h6⟩ := h
  exact ⟨n1, n2, b1, c1, b2, c2, ⟨rfl, hcc⟩, by omega, by omega, h3, h4, h5.kx hb (by omega), h6.kx hb (by omega)⟩
theorem results_tmp_cell {P : Program} {fn : Func} {p a : Tmp} {ty : TypeId} (h : fn.results = #[.tmp a, .cell p ty]) (tmps : Array Value) (w : World) (g : Nat) (t : TypeId) (cs : Array Value) (fr : Nat × Nat) (d : TypeDesc)
    (hp : tmps.getD p undef = .pointer (some ⟨g, 0, none⟩)) (hg : w.heap[g]? = some (.cells cs t fr))
    (hu : P.underlying ty = some d) (hd : (match d with | .struct _ | .array _ _ => true | _ => false) = true) (hi : (P.info? ty).map (·.size) = some cs.size) :
    (results fn tmps).run P w = .ok (.tuple #[tmps.getD a undef, .agg cs]) w := by
  have hp' : tmps[p]?.getD undef = .pointer (some ⟨g, 0, none⟩) := by simpa using hp
  simp [results, h, hp', asAddr, run_loadVar_row w g t ty cs fr d hg hu hd hi]
theorem lay_at (A : Nat) : A % 8192 / 4 * 4 < 8192 ∧ A % 8192 / 4 * 4 % 4 = 0 ∧ A % 8192 / 4 * 4 + 4 ≤ 8192 := by omega
end Go.Proofs.YtcakcfeipfjmpaaDoor
