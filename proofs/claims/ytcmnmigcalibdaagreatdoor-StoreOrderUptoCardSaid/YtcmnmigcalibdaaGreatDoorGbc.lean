import Derived.Test.YtcmnmigcalibdaaGreatDoorGbb
import Derived.Test.YtcmnmigcalibdaaGreatDoorRows
import Derived.Lib.LaidTab
import Derived.LaidSub
import Derived.Test.YtcmnmigcalibdaaGreatDoorCards
import Derived.Test.YtcmnmigcalibdaaGreatDoorTie
namespace Go.Proofs.YtcmnmigcalibdaaGreatDoor
open Go Go.Mv Go.ChangeShapes
set_option maxRecDepth 100000
theorem cellsO_bs : Tryz.prog.cellsOf 32 = 1 := by kernel_rfl
theorem cellsO_op : Tryz.prog.cellsOf 52 = 2 := by kernel_rfl
section
variable {H : Type} {enc : TypeId × Value → H} {W : World}
def rawC (r : Int × Value) : List Value := [.int .i64 r.1, r.2]
def rawOk {H : Type} (enc : TypeId × Value → H) (W : World) (r : Int × Value) : Prop := ∃ n y, DataW.trod enc Tryz.prog W 0 (fun _ => true) true n 24 [r.2] = some y
theorem open_rawOp {n : Nat} {cs : List Value} {x : DataW H × List MemPlace} (h : DataW.trod enc Tryz.prog W 0 (fun _ => true) true n 52 cs = some x) : ∃ r, cs = rawC r ∧ rawOk enc W r := by
  obtain ⟨hl, hf⟩ := trod_field Tryz.underlying52 h
  rw [cellsO_op] at hl
  obtain ⟨m0, y0, h0⟩ := hf 0 _ rfl
  obtain ⟨m1, y1, h1⟩ := hf 1 _ rfl
  have h0 : DataW.trod enc Tryz.prog W 0 (fun _ => true) true m0 3 ((cs.drop 0).take (Tryz.prog.cellsOf 3)) = some y0 := h0
  have h1 : DataW.trod enc Tryz.prog W 0 (fun _ => true) true m1 24 ((cs.drop 1).take (Tryz.prog.cellsOf 24)) = some y1 := h1
  obtain ⟨k, hk, _, _⟩ := DataW.trod_int Tryz.underlying3 h0
  obtain ⟨v, hv⟩ := trod_cell Tryz.underlying24 h1
  refine ⟨(k, v), ?_, m1, y1, by rw [← hv]; exact h1⟩
  have e0 := at0 hk
  have e1 := at0 hv
  match cs, hl with
  | [a, b], _ =>
    simp only [List.getElem?_cons_zero, List.getElem?_cons_succ, Option.some.injEq] at e0 e1
    rw [e0, e1]; rfl
theorem open_eachOp : ∀ (rs : List (Int × Value)), (∀ r ∈ rs, rawOk enc W r) → ∀ HZ, Hp HZ W → ∃ HA, ∃ l : List OpM, Hp (HA ++ HZ) W ∧ l.map (fun o => (o.k, o.v)) = rs ∧ OpsOk (HA ++ HZ) l ∧ ∀ o ∈ l, o.l.length ≤ 9223372036854775807
  | [], _, HZ, hH => ⟨[], [], hH, rfl, (fun x hx => nomatch hx), (fun x hx => nomatch hx)⟩
  | r :: rs, hr, HZ, hH => by
    obtain ⟨HA, l, hA, hl, hok, hle⟩ := open_eachOp rs (fun x hx => hr x (List.mem_cons_of_mem _ hx)) HZ hH
    obtain ⟨n, y, hn⟩ := hr r List.mem_cons_self
    obtain ⟨HB, bs, hB, hb, hbs, hbl⟩ := open_bss Tryz.underlying24 Tryz.underlying32 cellsO_bs cellsO_u8 (fun n cs x h => open_byteT h) hn (HA ++ HZ) hA
    obtain ⟨a, c, hv⟩ := hb.shape
    have e : (OpM.v ⟨r.1, a, c, bs⟩) = r.2 := hv.symm
    refine ⟨HB ++ HA, ⟨r.1, a, c, bs⟩ :: l, by rw [List.append_assoc]; exact hB, by rw [List.map_cons, hl, e], fun x hx => ?_, fun x hx => ?_⟩
    · rw [List.append_assoc]
      rcases List.mem_cons.1 hx with rfl | hx
      · exact ⟨by rw [e]; exact hb, hbs⟩
      · exact ⟨(hok x hx).1.mono Hp_app, (hok x hx).2.mono Hp_app⟩
    · rcases List.mem_cons.1 hx with rfl | hx
      · exact hbl
      · exact hle x hx
/-- Calls that come in. -/
theorem open_ops {r : Reach} {b0 : Nat} {v : Value} {d : DataW H} {p : List MemPlace} (hval : Value.okWide Tryz.prog W r b0 22 v) (h : DataW.Trod enc Tryz.prog W 0 (fun _ => true) true 22 v d p) (HZ : Mem) (hH : Hp HZ W) :
    ∃ HA l, Hp (HA ++ HZ) W ∧ Rdx 2 opC (HA ++ HZ) v l ∧ OpsOk (HA ++ HZ) l ∧ (l.length ≤ 9223372036854775807 ∧ ∀ o ∈ l, o.l.length ≤ 9223372036854775807) := by
  obtain ⟨a0, l0, c0, rfl⟩ := WideShapes.okWide_slice Tryz.underlying22 hval
  obtain ⟨n, hn⟩ := h
  obtain ⟨HA, rs, hA, hrs, hok, hlen⟩ := open_slT (ec := rawC) (ok := rawOk enc W) Tryz.underlying22 cellsO_op (by decide) (fun _ => rfl) (fun n cs x h => open_rawOp h) (show DataW.trod enc Tryz.prog W 0 (fun _ => true) true n 22 [.slice a0 l0 c0] = some (d, p) from hn) HZ hH
  obtain ⟨HB, l, hB, hl, hops, hle⟩ := open_eachOp rs hok (HA ++ HZ) hA
  subst hl
  refine ⟨HB ++ HA, l, by rw [List.append_assoc]; exact hB, ?_, by rw [List.append_assoc]; exact hops, by simpa using hlen, hle⟩
  rw [List.append_assoc]
  have h9 := hrs.mono (H' := HB ++ (HA ++ HZ)) Hp_app
  rcases h9 with ⟨hn, he⟩ | ⟨b, off, cap, hv, hc, hcell⟩
  · exact .inl ⟨hn, by simpa using he⟩
  · refine .inr ⟨b, off, cap, by rw [hv]; simp, by simpa using hc, fun w hw i x hi j u hu => ?_⟩
    refine hcell w hw i (x.k, x.v) (by rw [List.getElem?_map, hi]; rfl) j u ?_
    simpa [opC, rawC, OpM.v] using hu
end
end Go.Proofs.YtcmnmigcalibdaaGreatDoor

namespace Go.Proofs.YtcmnmigcalibdaaGreatDoor
open Go Go.Mv Go.ChangeShapes
set_option maxRecDepth 100000
theorem bulk_one {H : Type} (d : DataW H) : 1 ≤ Rows.uptoBulk d := by
  cases d with
  | lit l => cases l <;> simp [Rows.uptoBulk]
  | nil => simp [Rows.uptoBulk]
  | ptr d => simp [Rows.uptoBulk]
  | slice elems spare => simp [Rows.uptoBulk]
  | agg parts => simp [Rows.uptoBulk]
  | iface t d => simp [Rows.uptoBulk]
  | map entries => simp [Rows.uptoBulk]
  | held h => simp [Rows.uptoBulk]
theorem bulk_len {H : Type} (l : List (DataW H)) : l.length ≤ Rows.uptoBulkAll l := by
  induction l with
  | nil => simp [Rows.uptoBulkAll]
  | cons x r ih => have := bulk_one x; simp only [Rows.uptoBulkAll, List.length_cons]; omega
/-- Values read one by one, whose weights their readings pay. -/
theorem bulk_sum {H α : Type} {μ : α → Nat} : ∀ {l : List α} {es : List (DataW H × List MemPlace)}, (∀ (i : Nat) x, l[i]? = some x → ∃ y, es[i]? = some y ∧ μ x ≤ Rows.uptoBulk y.1) → (l.map μ).sum ≤ Rows.uptoBulkAll (es.map (·.1))
  | [], _, _ => Nat.zero_le _
  | x :: l, [], h => by obtain ⟨y, hy, _⟩ := h 0 x rfl; cases hy
  | x :: l, e :: es, h => by
    obtain ⟨y, hy, hx⟩ := h 0 x rfl
    obtain rfl := Option.some.inj hy
    have ih := bulk_sum (l := l) (es := es) fun i a hi => h (i + 1) a (by simpa using hi)
    simp only [List.map_cons, List.sum_cons, Rows.uptoBulkAll]; omega
section
variable {H : Type} {enc : TypeId × Value → H} {P : Program} {W : World}
/-- A slice's reading pays what each element's reading pays. -/
theorem bulk_slice {α : Type} {ec : α → List Value} {sz : Nat} {μ : α → Nat} {t e : TypeId} {n : Nat} {v : Value} {y : DataW H × List MemPlace} {M : Mem} {l : List α} (ht : P.underlying t = some (.slice e)) (hsz : P.cellsOf e = sz) (hk : ∀ x, (ec x).length = sz)
    (hel : ∀ n x y, x ∈ l → DataW.trod enc P W 0 (fun _ => true) true n e (ec x) = some y → μ x ≤ Rows.uptoBulk y.1)
    (hn : DataW.trod enc P W 0 (fun _ => true) true n t [v] = some y) (hr : Rdx sz ec M v l) (hM : Hp M W) : (l.map μ).sum + 1 ≤ Rows.uptoBulk y.1 ∧ l.length + 1 ≤ Rows.uptoBulk y.1 := by
  have h1 := bulk_one y.1
  rcases hr with ⟨_, rfl⟩ | ⟨b, off, cap', hv, _, hcell⟩
  · simpa using h1
  rcases DataW.trod_slice ht hn with ⟨hcs, _⟩ | ⟨a, len, cap, elems, rest, m, _, hcs, hx, _, _, _, hlen, hels, _⟩
  · rw [hv] at hcs
    injection hcs with h _; injection h with h; cases h
  · rw [hv] at hcs
    injection hcs with h _; injection h with ha hl _
    have ha := Option.some.inj ha
    subst ha
    subst hx
    have key : ∀ (i : Nat) x, l[i]? = some x → ∃ y, elems[i]? = some y ∧ μ x ≤ Rows.uptoBulk y.1 := fun i x hi => by
      have hil := (List.getElem?_eq_some_iff.1 hi).1
      have h2 := hels i (by omega)
      rw [List.getElem?_eq_getElem (by omega)] at h2
      have hc : W.cells? 0 ((⟨b, off, none⟩ : Addr).add (i * P.cellsOf e)) (P.cellsOf e) = some (ec x) := by
        rw [hsz, add_none]
        simp only [World.cells?, Nat.zero_le, if_true]
        have h3 := fun j u hu => hcell W hM i x hi j u hu
        have h4 : (List.range sz).mapM (fun j => (ec x)[j]?) = some (ec x) := by
          have h5 : ∀ (L : List Value) (k : Nat), k ≤ L.length → (List.range k).mapM (fun j => L[j]?) = some (L.take k) := by
            intro L k
            induction k with
            | zero => intro _; simp
            | succ k ih =>
              intro hk
              rw [List.range_succ, List.mapM_append, ih (by omega), List.take_succ_eq_append_getElem (by omega)]
              simp [List.getElem?_eq_getElem (show k < L.length by omega)]
          rw [h5 _ _ (by rw [hk]; exact Nat.le_refl _), ← hk x, List.take_length]
        have h6 : ∀ (q : List Nat), (∀ j ∈ q, j < sz) → q.mapM (fun j => W.cell? ((⟨b, off + i * sz, none⟩ : Addr).add j)) = q.mapM (fun j => (ec x)[j]?) := by
          intro q
          induction q with
          | nil => intro _; rfl
          | cons j q ih =>
            intro hq
            have hj := hq j List.mem_cons_self
            have e1 : W.cell? ((⟨b, off + i * sz, none⟩ : Addr).add j) = (ec x)[j]? := by
              rw [List.getElem?_eq_getElem (by rw [hk]; exact hj), add_none]
              exact h3 j _ (List.getElem?_eq_getElem _)
            rw [List.mapM_cons, List.mapM_cons, e1, ih fun j' hj' => hq j' (List.mem_cons_of_mem _ hj')]
        rw [h6 _ fun j hj => List.mem_range.1 hj, h4]
      rw [hc] at h2
      exact ⟨_, List.getElem?_eq_getElem (by omega), hel _ x _ (List.mem_of_getElem? hi) h2⟩
    have h7 := bulk_sum key
    have h8 := bulk_len (elems.map (·.1))
    rw [List.length_map] at h8
    simp only [Rows.uptoBulk]
    constructor <;> omega
end
theorem flat_sum {α β : Type} {f : α → List β} : ∀ (l : List α), (l.flatMap f).length = (l.map fun x => (f x).length).sum
  | [] => rfl
  | x :: l => by simp [flat_sum l]
end Go.Proofs.YtcmnmigcalibdaaGreatDoor

namespace Go.Proofs.YtcmnmigcalibdaaGreatDoor
open Go Go.Mv Go.ChangeShapes
set_option maxRecDepth 100000
section
variable {H : Type} {enc : TypeId × Value → H} {W : World}
/-- What calls hold, their reading's bulk pays. -/
theorem bulk_ops {n : Nat} {v : Value} {d : DataW H} {p : List MemPlace} {M : Mem} {l : List OpM} (hn : DataW.trod enc Tryz.prog W 0 (fun _ => true) true n 22 [v] = some (d, p)) (hr : Rdx 2 opC M v l) (hok : OpsOk M l) (hM : Hp M W) : (textsB l).length ≤ Rows.uptoBulk d := by
  have h := (bulk_slice (μ := fun o : OpM => o.l.length) (l := l) Tryz.underlying22 cellsO_op opC_len (fun n x y hx h => by
    obtain ⟨y0, y1, k, rfl, _, _, h1⟩ := trod_struct2 Tryz.underlying52 h
    have h1 : DataW.trod enc Tryz.prog W 0 (fun _ => true) true k 24 [x.v] = some y1 := h1
    have h2 := (bulk_slice (μ := fun _ : BSl => 0) (l := x.l) Tryz.underlying24 cellsO_bs bsC_len (fun _ _ _ _ _ => Nat.zero_le _) h1 (hok x hx).1 hM).2
    simp only [Rows.uptoBulk, Rows.uptoBulkAll]
    omega) hn hr hM).1
  rw [textsB, flat_sum]
  exact Nat.le_of_succ_le h
theorem bulk_bound {l : List (DataW H)} (hk : Rows.uptoSmall H l = true) : Rows.uptoBulkAll l ≤ 1048576 := of_decide_eq_true hk
end
end Go.Proofs.YtcmnmigcalibdaaGreatDoor

namespace Go.Proofs.YtcmnmigcalibdaaGreatDoor
open Go Go.Mv
set_option maxRecDepth 100000
def beginZ : List Int := S8.l shaB |>.map fun a => (a.toNat : Int)
def factorsZ : List Int := shaK.map fun a => (a.toNat : Int)
theorem begin_is : (Rows.laid_marshes_hash_begin : DataW Unit) = Go.Lib.tabData .u32 beginZ := by kernel_rfl
theorem factors_is : (Rows.laid_marshes_hash_factors : DataW Unit) = Go.Lib.tabData .u32 factorsZ := by kernel_rfl
theorem begin_cells : (beginZ.map fun z => Value.int .u32 z) = (wfV 8 (s8f shaB)).cells.toList := by kernel_rfl
theorem factors_cells : (factorsZ.map fun z => Value.int .u32 z) = (wfV 64 (gtf shaK)).cells.toList := by kernel_rfl
/-- The listed tables, as they lie. -/
theorem laid_hash {W : World} (hsh : W.ShapedOpen Tryz.prog) (hL : laidMetH Tryz.prog [("marshes/hash.begin", Rows.laid_marshes_hash_begin), ("marshes/hash.factors", Rows.laid_marshes_hash_factors)] W) :
    Hp [(0, .cells (wfV 8 (s8f shaB)).cells 151 (0, 0)), (1, .cells (wfV 64 (gtf shaK)).cells 286 (0, 0))] W := by
  have hL : laidMet Tryz.prog [("marshes/hash.begin", Rows.laid_marshes_hash_begin), ("marshes/hash.factors", Rows.laid_marshes_hash_factors)] W := hL
  have hL2 : laidMet Tryz.prog [("marshes/hash.factors", Rows.laid_marshes_hash_factors)] W := laidMet.filter (fun x => x.1 == "marshes/hash.factors") hL
  rw [begin_is] at hL
  rw [factors_is] at hL2
  have v1 : W.var? Tryz.prog "marshes/hash.begin" = some (beginZ.map fun z => Value.int .u32 z).toArray := Go.Lib.tabIs_of_head (g := 0) (t := 151) (e := 73) (n := 8) (by kernel_rfl) (by kernel_rfl) Tryz.underlying151 Tryz.underlying73 (by kernel_rfl) (by kernel_rfl) hL
  have v2 : W.var? Tryz.prog "marshes/hash.factors" = some (factorsZ.map fun z => Value.int .u32 z).toArray := Go.Lib.tabIs_of_head (g := 1) (t := 286) (e := 73) (n := 64) (by kernel_rfl) (by kernel_rfl) Tryz.underlying286 Tryz.underlying73 (by kernel_rfl) (by kernel_rfl) hL2
  obtain ⟨c1, h1, _⟩ := hsh.1 0 (List.replicate 8 (Value.int .u32 0)).toArray 151 (of_decide_eq_true (by kernel_rfl)) (by kernel_rfl)
  obtain ⟨c2, h2, _⟩ := hsh.1 1 (List.replicate 64 (Value.int .u32 0)).toArray 286 (of_decide_eq_true (by kernel_rfl)) (by kernel_rfl)
  have g1 : Tryz.prog.globalNamed "marshes/hash.begin" = some 0 := by kernel_rfl
  have g2 : Tryz.prog.globalNamed "marshes/hash.factors" = some 1 := by kernel_rfl
  have e1 : c1 = (wfV 8 (s8f shaB)).cells := by
    unfold World.var? at v1
    rw [g1] at v1
    simp only [Option.bind_some, h1] at v1
    rw [Option.some.inj v1, begin_cells]
  have e2 : c2 = (wfV 64 (gtf shaK)).cells := by
    unfold World.var? at v2
    rw [g2] at v2
    simp only [Option.bind_some, h2] at v2
    rw [Option.some.inj v2, factors_cells]
  subst e1; subst e2
  refine ⟨fun e he => ?_, by simp⟩
  simp only [List.mem_cons, List.not_mem_nil, or_false] at he
  rcases he with rfl | rfl
  · exact h1
  · exact h2
end Go.Proofs.YtcmnmigcalibdaaGreatDoor

namespace Go.Proofs.YtcmnmigcalibdaaGreatDoor.StOrder
open Go
set_option maxRecDepth 100000
theorem kinPlace : (Rows.storeOrderUptoRow.inPlace == Tryz.pinned.checked.prog.inPlace 3) = true := by kernel_rfl
theorem kunfollowed : (Rows.storeOrderUptoRow.unfollowed == Tryz.pinned.checked.prog.unfollowed 3) = true := by kernel_rfl
end Go.Proofs.YtcmnmigcalibdaaGreatDoor.StOrder

namespace Go.Proofs.YtcmnmigcalibdaaGreatDoor.StOrder
open Go
set_option maxRecDepth 100000
theorem krecurses : (Rows.storeOrderUptoRow.recurses == Tryz.pinned.checked.prog.recurses 3) = true := by kernel_rfl
theorem knamed : (Rows.storeOrderUptoRow.named == Tryz.pinned.checked.prog.varsNamed 3) = true := by kernel_rfl
end Go.Proofs.YtcmnmigcalibdaaGreatDoor.StOrder

namespace Go.Proofs.YtcmnmigcalibdaaGreatDoor.StOrder
open Go
set_option maxRecDepth 100000
theorem klifts : (Rows.storeOrderUptoRow.lifted == Tryz.pinned.checked.prog.liftsFinal) = true := by kernel_rfl
end Go.Proofs.YtcmnmigcalibdaaGreatDoor.StOrder

namespace Go.Proofs.YtcmnmigcalibdaaGreatDoor.StOrder
open Go
set_option maxRecDepth 100000
theorem kmake : (Tryz.pinned.checked.prog.make == some Rows.storeOrderUptoRow.make) = true := by kernel_rfl
end Go.Proofs.YtcmnmigcalibdaaGreatDoor.StOrder

namespace Go.Proofs.YtcmnmigcalibdaaGreatDoor.StOrder
open Go
set_option maxRecDepth 100000
theorem kenter : Tryz.pinned.checked.prog.mayEnter = true := by kernel_rfl
theorem kheard : Tryz.pinned.checked.prog.stopsHeard = true := by kernel_rfl
end Go.Proofs.YtcmnmigcalibdaaGreatDoor.StOrder

namespace Go.Proofs.YtcmnmigcalibdaaGreatDoor.StOrder
open Go
set_option maxRecDepth 100000
theorem kgoes : false = Rows.storeOrderUptoRow.goesBy Tryz.pinned.checked.prog := by kernel_rfl
end Go.Proofs.YtcmnmigcalibdaaGreatDoor.StOrder
