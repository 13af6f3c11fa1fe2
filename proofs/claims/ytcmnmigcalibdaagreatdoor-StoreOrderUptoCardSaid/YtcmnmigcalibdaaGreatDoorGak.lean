import Derived.Test.YtcmnmigcalibdaaGreatDoorGaj
import Derived.Test.YtcmnmigcalibdaaGreatDoorSrt
namespace Go.Proofs.YtcmnmigcalibdaaGreatDoor
open Go Go.Mv Go.ChangeShapes
set_option maxRecDepth 100000
/-- A slice of bytes that stands in a cell, and its bytes. -/
structure BSl where
  a : Option Addr
  c : Nat
  b : List UInt8
def BSl.v (x : BSl) : Value := .slice x.a x.b.length x.c
def bsC (x : BSl) : List Value := [.slice x.a x.b.length x.c]
theorem bsC_len (x : BSl) : (bsC x).length = 1 := rfl
theorem bsC_one (x : BSl) : ∀ v ∈ bsC x, v.oneCell' = true := by intro v hv; simp only [bsC, List.mem_cons, List.not_mem_nil, or_false] at hv; subst hv; rfl
instance : Inhabited BSl := ⟨⟨none, 0, []⟩⟩
/-- All of these can be read. -/
def BsOk (H : Mem) (l : List BSl) : Prop := ∀ x ∈ l, Rdb H x.v x.b
theorem BsOk.mono {H H' : Mem} {l : List BSl} (h : BsOk H l) (hs : ∀ w, Hp H' w → Hp H w) : BsOk H' l := fun x hx => (h x hx).mono hs

/-- A slice whose elements can be read, wherever it stands. -/
theorem open_slT {H : Type} {α : Type} {P : Program} {ec : α → List Value} {sz : Nat} {ok : α → Prop} {t e : TypeId} {enc : TypeId × Value → H} {W : World} {n : Nat} {v : Value} {y : DataW H × List MemPlace} (ht : P.underlying t = some (.slice e)) (hsz : P.cellsOf e = sz) (hs0 : 0 < sz) (hk : ∀ x, (ec x).length = sz)
    (hel : ∀ n cs x, DataW.trod enc P W 0 (fun _ => true) true n e cs = some x → ∃ a, cs = ec a ∧ ok a) (hn : DataW.trod enc P W 0 (fun _ => true) true n t [v] = some y) (HZ : Mem) (hH : Hp HZ W) :
    ∃ HA l, Hp (HA ++ HZ) W ∧ Rdx sz ec (HA ++ HZ) v l ∧ (∀ x ∈ l, ok x) ∧ l.length ≤ 9223372036854775807 := by
  rcases DataW.trod_slice ht hn with ⟨hcs, _⟩ | ⟨a, len, cap, elems, rest, m, _, hcs, _, _, hl, hm, hlen, hels, hrest, _⟩
  · obtain rfl := (List.cons.inj hcs).1
    exact ⟨[], [], hH, Rdx.nil, by simp, by simp⟩
  · obtain rfl := (List.cons.inj hcs).1
    have hm63 : len ≤ 9223372036854775807 := by have : cap ≤ 9223372036854775807 := hm; omega
    by_cases hc0 : cap = 0
    · subst hc0
      obtain rfl : len = 0 := by omega
      exact ⟨[], [], hH, .inl ⟨⟨_, rfl⟩, rfl⟩, by simp, by simp⟩
    · have hcell0 : ∃ u, W.cell? a = some u := by
        have hz : ∃ cs, W.cells? 0 (a.add (0 * P.cellsOf e)) (P.cellsOf e) = some cs := by
          by_cases h0 : 0 < len
          · have h1 := hels 0 h0
            cases hc : W.cells? 0 (a.add (0 * P.cellsOf e)) (P.cellsOf e) with
            | none => rw [hc, List.getElem?_eq_getElem (by omega)] at h1; simp at h1
            | some cs => exact ⟨cs, rfl⟩
          · obtain rfl : len = 0 := by omega
            obtain ⟨hr, hr2⟩ := hrest rfl
            have h1 := hr2 0 (by omega)
            cases hc : W.cells? 0 (a.add ((0 + 0) * P.cellsOf e)) (P.cellsOf e) with
            | none => rw [hc, List.getElem?_eq_getElem (by omega)] at h1; simp at h1
            | some cs => exact ⟨cs, by simp⟩
        obtain ⟨cs, hcs⟩ := hz
        rw [hsz, Nat.zero_mul] at hcs
        simp only [World.cells?, Nat.zero_le, if_true] at hcs
        have := mapM_at hcs 0 hs0
        have e0 : ∀ b : Addr, b.add 0 = b := fun b => rfl
        rw [e0, e0] at this
        have hl1 : cs.length = sz := by
          have h2 : ∀ {l : List Nat} {f : Nat → Option Value} {r : List Value}, l.mapM f = some r → r.length = l.length := by
            intro l
            induction l with
            | nil => intro f r h; simp only [List.mapM_nil, Option.pure_def, Option.some.injEq] at h; subst h; rfl
            | cons x l ih =>
              intro f r h
              simp only [List.mapM_cons, Option.bind_eq_bind, Option.bind_eq_some_iff, Option.pure_def, Option.some.injEq] at h
              obtain ⟨y, _, ys, hys, rfl⟩ := h
              simp [ih hys]
          rw [h2 hcs, List.length_range]
        rw [List.getElem?_eq_getElem (by omega)] at this
        exact ⟨_, this⟩
      obtain ⟨u0, hu0⟩ := hcell0
      have hspot := World.cell?_spot hu0
      obtain ⟨bb, off, sp⟩ := a
      simp only at hspot
      subst hspot
      have each : ∀ i, i < len → ∃ x, ok x ∧ ∀ j u, (ec x)[j]? = some u → W.cell? ⟨bb, off + i * sz + j, none⟩ = some u := fun i hi => by
        have h1 := hels i hi
        have h2 : elems[i]? = some elems[i] := List.getElem?_eq_getElem (by omega)
        rw [h2] at h1
        cases hc : W.cells? 0 ((⟨bb, off, none⟩ : Addr).add (i * P.cellsOf e)) (P.cellsOf e) with
        | none => rw [hc] at h1; simp at h1
        | some cs =>
          rw [hc] at h1
          obtain ⟨x, rfl, hx⟩ := hel _ _ _ h1
          refine ⟨x, hx, fun j u hu => ?_⟩
          rw [hsz, add_none] at hc
          simp only [World.cells?, Nat.zero_le, if_true] at hc
          have hj : j < sz := by rw [← hk x]; exact (List.getElem?_eq_some_iff.1 hu).1
          have := mapM_at hc j hj
          rw [hu] at this
          simpa [add_none] using this
      obtain ⟨l, hll, hlo, hlc⟩ := build_list each
      subst hll
      have hblk : bb < W.heap.size := block_lt_of_cell hu0
      have hbb : W.heap[bb]? = some W.heap[bb] := Array.getElem?_eq_getElem hblk
      have hcells : ∀ w : World, w.heap[bb]? = some W.heap[bb] → ∀ i x, l[i]? = some x → ∀ j u, (ec x)[j]? = some u → w.cell? ⟨bb, off + i * sz + j, none⟩ = some u := fun w hw i x hi j u hu => by
        rw [← hlc i x hi j u hu]
        exact World.cell?_of_block (hw.trans hbb.symm)
      by_cases hz : ∃ o, (bb, o) ∈ HZ
      · obtain ⟨o, ho⟩ := hz
        have : o = W.heap[bb] := Option.some.inj ((hH.at_ _ ho).symm.trans hbb)
        subst this
        exact ⟨[], l, hH, .inr ⟨bb, off, cap, rfl, hl, fun w hw => hcells w (hw.at_ _ ho)⟩, hlo, hm63⟩
      · refine ⟨[(bb, W.heap[bb])], l, ⟨fun e he => ?_, ?_⟩, .inr ⟨bb, off, cap, rfl, hl, fun w hw => hcells w (hw.at_ (bb, _) (by simp))⟩, hlo, hm63⟩
        · rcases List.mem_append.1 he with he | he
          · simp only [List.mem_cons, List.not_mem_nil, or_false] at he; subst he; exact hbb
          · exact hH.at_ e he
        · refine List.pairwise_cons.2 ⟨fun e he h => hz ⟨e.2, ?_⟩, hH.ne⟩
          have he2 : (bb, e.2) = e := Prod.ext h rfl
          rw [he2]; exact he
/-- What is read over some blocks, over more of them. -/
theorem Hp_app {A B : Mem} : ∀ w, Hp (A ++ B) w → Hp B w := fun _ h => h.right
theorem trod_cell {H : Type} {enc : TypeId × Value → H} {P : Program} {W : World} {n : Nat} {t e : TypeId} {cs : List Value} {x : DataW H × List MemPlace} (ht : P.underlying t = some (.slice e)) (h : DataW.trod enc P W 0 (fun _ => true) true n t cs = some x) : ∃ v, cs = [v] := by
  rcases DataW.trod_slice ht h with ⟨hcs, _⟩ | ⟨a, len, cap, elems, rest, m, _, hcs, _⟩
  · exact ⟨_, hcs⟩
  · exact ⟨_, hcs⟩
section
variable {H : Type} {enc : TypeId × Value → H} {P : Program} {W : World} {t2 t1 u8 : TypeId} (h2 : P.underlying t2 = some (.slice t1)) (h1 : P.underlying t1 = some (.slice u8)) (c1 : P.cellsOf t1 = 1) (c0 : P.cellsOf u8 = 1)
  (hel : ∀ n cs x, DataW.trod enc P W 0 (fun _ => true) true n u8 cs = some x → ∃ c, cs = byteC c ∧ True)
include h1 c0 hel
/-- Slices of bytes, one by one. -/
theorem open_each : ∀ (vs : List Value), (∀ v ∈ vs, ∃ n y, DataW.trod enc P W 0 (fun _ => true) true n t1 [v] = some y) → ∀ HZ, Hp HZ W → ∃ HA l, Hp (HA ++ HZ) W ∧ l.map BSl.v = vs ∧ BsOk (HA ++ HZ) l
  | [], _, HZ, hH => ⟨[], [], hH, rfl, fun x hx => nomatch hx⟩
  | v :: vs, hv, HZ, hH => by
    obtain ⟨HA, l, hA, hl, hok⟩ := open_each vs (fun x hx => hv x (List.mem_cons_of_mem _ hx)) HZ hH
    obtain ⟨n, y, hn⟩ := hv v List.mem_cons_self
    obtain ⟨HB, b, hB, hb, _, _⟩ := open_slT (ec := byteC) (ok := fun _ => True) h1 c0 (by decide) byteC_len hel hn (HA ++ HZ) hA
    obtain ⟨a, c, rfl⟩ := hb.shape
    refine ⟨HB ++ HA, ⟨a, c, b⟩ :: l, by rw [List.append_assoc]; exact hB, by rw [List.map_cons, hl]; rfl, fun x hx => ?_⟩
    rcases List.mem_cons.1 hx with rfl | hx
    · rw [List.append_assoc]; exact Rdb.of_x hb
    · rw [List.append_assoc]; exact (hok x hx).mono Hp_app
include h2 c1
/-- A slice of slices of bytes. -/
theorem open_bss {n : Nat} {v : Value} {y : DataW H × List MemPlace} (hn : DataW.trod enc P W 0 (fun _ => true) true n t2 [v] = some y) (HZ : Mem) (hH : Hp HZ W) :
    ∃ HA l, Hp (HA ++ HZ) W ∧ Rdx 1 bsC (HA ++ HZ) v l ∧ BsOk (HA ++ HZ) l ∧ l.length ≤ 9223372036854775807 := by
  obtain ⟨HA, vs, hA, hvs, hok, hlen⟩ := open_slT (ec := fun v : Value => [v]) (ok := fun v => ∃ n y, DataW.trod enc P W 0 (fun _ => true) true n t1 [v] = some y) h2 c1 (by decide) (fun _ => rfl) (fun n cs x h => by
    obtain ⟨v, rfl⟩ := trod_cell h1 h
    exact ⟨v, rfl, n, x, h⟩) hn HZ hH
  obtain ⟨HB, l, hB, hl, hbs⟩ := open_each h1 c0 hel vs hok (HA ++ HZ) hA
  subst hl
  refine ⟨HB ++ HA, l, by rw [List.append_assoc]; exact hB, ?_, by rw [List.append_assoc]; exact hbs, by simpa using hlen⟩
  rw [List.append_assoc]
  have h9 := hvs.mono (H' := HB ++ (HA ++ HZ)) Hp_app
  rcases h9 with ⟨hn, he⟩ | ⟨b, off, cap, rfl, hc, hcell⟩
  · exact .inl ⟨hn, by simpa using he⟩
  · refine .inr ⟨b, off, cap, by simp, by simpa using hc, fun w hw i x hi j u hu => ?_⟩
    refine hcell w hw i x.v (by rw [List.getElem?_map, hi]; rfl) j u ?_
    simpa [bsC, BSl.v] using hu
end
end Go.Proofs.YtcmnmigcalibdaaGreatDoor

namespace Go.Proofs.YtcmnmigcalibdaaGreatDoor
open Go Go.Mv
set_option maxRecDepth 8000
/-- Where a list has the first such one. -/
def IdxF (p : Rec → Bool) (l : List Rec) (n : Int) : Prop := (n = -1 ∧ ∀ x ∈ l, p x = false) ∨ ∃ (i : Nat) (x : Rec), n = i ∧ l[i]? = some x ∧ p x = true ∧ ∀ (j : Nat) (y : Rec), j < i → l[j]? = some y → p y = false
theorem IdxF.any {p : Rec → Bool} {l : List Rec} {n : Int} (h : IdxF p l n) : decide (n ≥ 0) = l.any p := by
  rcases h with ⟨rfl, h⟩ | ⟨i, x, rfl, hx, hp, _⟩
  · rw [List.any_eq_false.2 (fun x hx => by simp [h x hx])]; rfl
  · rw [List.any_eq_true.2 ⟨x, List.mem_of_getElem? hx, hp⟩]; exact decide_eq_true (by omega)

end Go.Proofs.YtcmnmigcalibdaaGreatDoor

namespace Go.Proofs.YtcmnmigcalibdaaGreatDoor
open Go.Proofs.Tryz
open Go Go.Mv
set_option maxRecDepth 8000
theorem c_bytesCmp (f g : Nat → Int) (b1 b2 : Nat) (w : World) (hf : IdOk f) (hg : IdOk g) (hH : Hp [(b1, .cells (idV f).cells 35 (0, 0)), (b2, .cells (idV g).cells 35 (0, 0))] w) : Calls Tryz.prog 151 #[.slice (some ⟨b1, 0, none⟩) 32 32, .slice (some ⟨b2, 0, none⟩) 32 32] w (Ret w [] fun v H1 => v = .int .i64 (idCmp f g) ∧ H1 = []) := by
 refine fn_enter (args := [_, _]) func151 rfl ntmps151 rfl hH (sq (pl (qa rfl (n0 (sq (pl (qm rfl (qm rfl (ql rfl (RD.call_extern rfl rfl (fun w hw => run_cmpIds (o1 := 0) (o2 := 0) func198 (by kernel_rfl) (by kernel_rfl) (by kernel_rfl) (by kernel_rfl) hf hg (id_slice (i := 0) hw rfl) (id_slice (i := 1) hw rfl))) ?_)))))))))
 exact qa rfl (n0 (rt (pn_done rfl rfl ⟨rfl, rfl⟩ (List.nil_sublist _) (by simp))))
theorem c_hashCmp (f g : Nat → Int) (w : World) (hf : IdOk f) (hg : IdOk g) : Calls Tryz.prog 92 #[idV f, idV g] w (Ret w [] fun v H1 => v = .int .i64 (idCmp f g) ∧ H1 = []) := by
 refine fn_enter (args := [_, _]) func92 rfl ntmps92 rfl (Hp.nil w) (sq (pl (TE_box rfl rfl trivial rfl fun b2 hb2 => (TE_box rfl rfl trivial rfl fun b3 hb3 => (qa rfl (n0 (sq (sq (pl ?_)))))))))
 refine ql rfl (RD.loadA (i := 1) isAgg35 sizeOf35 rfl rfl (Nat.le_of_ble_eq_true rfl) (id_all _)) (ql rfl (RD.loadA (i := 0) isAgg35 sizeOf35 rfl rfl (Nat.le_of_ble_eq_true rfl) (id_all _)) (qq rfl (RD.eql_agg eqGuardType35 (eq_id f g) rfl rfl) (n0 ?_)))
 first | refine pn_condD rfl (fun hc0 => ?_) (fun hc0 => ?_) | refine pn_condN rfl (fun hc0 => ?_) (fun hc0 => ?_) | refine pn_cond rfl (fun hc0 => ?_) (fun hc0 => ?_)
 ·exact sq (pl (qa rfl (n0 (rt (pn_done rfl rfl ⟨by rw [idCmp_zero.2 (sameN_iff.1 (by simpa using hc0))]; rfl, rfl⟩ (List.nil_sublist _) (by simp))))))
 ·refine sk (sq (pn_draw [] [] [0, 1] rfl (by kernel_rfl) (by kernel_rfl) rfl rfl (qq rfl (RD.sliceA runUnderlying35 sizeOf5 rfl rfl (Nat.le_refl _)) (qq rfl (RD.sliceA runUnderlying35 sizeOf5 rfl rfl (Nat.le_refl _)) (TE_call rfl rfl trivial call151 rfl rfl rfl (fun w hs' => c_bytesCmp f g b2 b3 w hf hg (hs'.hp.sp (fun a => by simp -failIfUnchanged <;> omega))) ?_)))))
  rintro v10 H2 ⟨rfl, rfl⟩ -
  exact qa rfl (TE_nil (rt (pn_done rfl rfl ⟨rfl, rfl⟩ (List.nil_sublist _) (by simp))))
def sameIL : List (Nat → Int) → List (Nat → Int) → Bool
  | [], [] => true
  | x :: xs, y :: ys => sameN 32 x y && sameIL xs ys
  | _, _ => false
theorem elId : ElI Tryz.prog 35 32 32 (idV fun _ => 0) := by unfold ElI; kernel_rfl
end Go.Proofs.YtcmnmigcalibdaaGreatDoor

namespace Go.Proofs.YtcmnmigcalibdaaGreatDoor
open Go.Proofs.Tryz
open Go Go.Mv
set_option maxRecDepth 8000
theorem c_cloneI (H : Mem) (xv : Value) (ys : List (Nat → Int)) (w : World) (hH : Hp H w) (hb : Rdx 32 idC H xv ys) (hlen : ys.length ≤ 1000000) : Calls Tryz.prog 90 #[xv] w (Ret w [] fun v H1 => ∃ st, BldOk 32 idC ys st ∧ v = bldVx ys st ∧ H1 = bldMx 35 idC ys st) := by
  rcases hb.part with ⟨rfl, rfl⟩ | ⟨ad, n, c, rfl⟩
  · refine fn_enter (args := [_]) func90 rfl ntmps90 rfl hH ?_
    refine pn_seq ?_
    refine pn_plain [] rfl ?_
    refine TE_q rfl rfl (RD.assign rfl) rfl ?_
    refine TE_nil0 ?_
    refine pn_seq ?_
    refine pn_seq ?_
    refine pn_plain [] rfl ?_
    refine TE_q rfl rfl (RD.move rfl) rfl ?_
    refine TE_q rfl rfl (RD.sl_eql_nil runUnderlying41 rfl rfl) rfl ?_
    refine TE_nil0 ?_
    refine pn_condT rfl ?_
    refine pn_seq ?_
    refine pn_plain [] rfl ?_
    refine TE_q rfl rfl (RD.assign rfl) rfl ?_
    refine TE_nil0 ?_
    refine pn_ret ?_
    exact pn_done (H1 := []) rfl rfl ⟨none, rfl, rfl, rfl⟩ (List.nil_sublist _) (by simp)
  · refine fn_enter (args := [_]) func90 rfl ntmps90 rfl hH ?_
    refine pn_seq ?_
    refine pn_plain [] rfl ?_
    refine TE_q rfl rfl (RD.assign rfl) rfl ?_
    refine TE_nil0 ?_
    refine pn_seq ?_
    refine pn_seq ?_
    refine pn_plain [] rfl ?_
    refine TE_q rfl rfl (RD.move rfl) rfl ?_
    refine TE_q rfl rfl (RD.sl_eql_nil runUnderlying41 rfl rfl) rfl ?_
    refine TE_nil0 ?_
    refine pn_condF rfl ?_
    refine pn_skip ?_
    refine pn_seq ?_
    refine pn_plain [] rfl ?_
    refine TE_buildSlice0 rfl runUnderlying41 sizeOf35 trivial rfl fun b5 hb5 => ?_
    refine TE_q rfl rfl (RD.move rfl) rfl ?_
    refine TE_appendX (st := some (b5, 0, [])) (l := []) H idC_len idC_one rfl rfl rfl rfl trivial rfl underlying41 elId rfl rfl rfl ⟨Nat.le_refl _, by decide, rfl⟩ hb (fun _ hw => hw.sp (fun a => by simp -failIfUnchanged <;> omega)) (by simp; omega) rfl (bldx_all (fun k => w.heap.size ≤ k ∨ k ∈ []) (by rintro b cap tl ⟨⟩; exact .inl hb5)) ?_
    intro st hok hX _
    refine TE_q rfl rfl (RD.assign rfl) rfl ?_
    refine TE_nil0 ?_
    refine pn_ret ?_
    exact pn_done rfl rfl ⟨st, hok, rfl, rfl⟩ (List.sublist_append_left _ _) (fun e he => (hX e he).symm)

theorem zeroI_one : ∀ v ∈ ((idV fun _ => 0).cells).toList, v.oneCell' = true := List.all_eq_true.1 rfl
theorem zeroI_ok : IdOk fun _ => 0 := fun _ => by show (0 : Int) ≤ 0 ∧ (0 : Int) ≤ 255; omega
theorem setOf_self {l : List (Nat → Int)} (h : l.length < 2) : SetOf l l := by
  match l, h with
  | [], _ => exact SetOf.nil
  | [x], _ => exact ⟨by simp, fun _ => Iff.rfl⟩
theorem setOf_take {l : List (Nat → Int)} {k : Nat} (h : SetOf (l.take k) (l.take k)) (hk : l.length ≤ k) : SetOf l l := by rwa [List.take_of_length_le hk] at h

set_option maxHeartbeats 1000000 in
theorem c_compact (HC : Mem) (l : List (Nat → Int)) (st : SnkS) (w : World) (hbo : BldOk 32 idC l st) (hcan : ∀ x ∈ l, IdCan x) (hsort : l.Pairwise fun x y => ¬ idCmp y x < 0) (hlen : l.length ≤ 1000000) (hH : Hp (bldMx 35 idC l st ++ HC) w) : Calls Tryz.prog 93 #[bldVx l st] w (Ret w (keys (bldMx 35 idC l st)) fun r H1 => ∃ xs st', SetOf l xs ∧ BldOk 32 idC xs st' ∧ r = bldVx xs st' ∧ H1 = bldMx 35 idC xs st') := by
 have hRl : Rdx 32 idC (bldMx 35 idC l st) (bldVx l st) l := hbo.rdx idC_len
 refine fn_enter (args := [_]) func93 rfl ntmps93 rfl hH (sq (pl (qa rfl (n0 (sq (sq (pn_plain [1] rfl (qm rfl (qq rfl (RD.lenX runUnderlying41 rfl hRl) ?_)))))))))
 refine qq rfl (RD.lss rfl rfl) (n0 ?_)
 first | refine pn_condD rfl (fun hc0 => ?_) (fun hc0 => ?_) | refine pn_condN rfl (fun hc0 => ?_) (fun hc0 => ?_) | refine pn_cond rfl (fun hc0 => ?_) (fun hc0 => ?_)
 ·exact sq (pl (qm rfl (qa rfl (n0 (rt (pn_done rfl rfl ⟨l, st, setOf_self (by omega), hbo, rfl, rfl⟩ (List.sublist_append_left _ _) (fun e he => .inl (List.mem_map_of_mem he))))))))
 ·refine sk (sq (sq ?_))
  have hq9 := hbo.some_of (fun h => hc0 (by rw [h]; decide)); obtain ⟨b0, cap0, tl0, rfl⟩ := hq9
  refine pl (qa rfl (n0 (pn_block (pn_loop (σ := Nat) (fun k => [(3, .int .i64 (k : Int)), (0, .slice (some ⟨b0, 0, none⟩) l.length cap0)]) (fun _ => bldMx 35 idC l (some (b0, cap0, tl0)) ++ HC) (fun k => 1 ≤ k ∧ k ≤ l.length ∧ SetOf (l.take k) (l.take k)) (fun k => l.length - k) 1 ⟨Nat.le_refl _, by omega, setOf_self (by rw [List.length_take]; omega)⟩ ⟨rfl, rfl, trivial⟩ (List.Sublist.refl _) ?_))))
  rintro k ⟨hk1, hk2, hset⟩
  refine sq (sq (pn_plain [2] rfl (qm rfl (qm rfl (qq rfl (RD.lenX runUnderlying41 rfl hRl) (qq rfl (RD.lss rfl rfl) (n0 ?_)))))))
  first | refine pn_condD rfl (fun hc1 => ?_) (fun hc1 => ?_) | refine pn_condN rfl (fun hc1 => ?_) (fun hc1 => ?_) | refine pn_cond rfl (fun hc1 => ?_) (fun hc1 => ?_)
  ·refine sk (sq (pn_block (sq ?_)))
   have hkl : k < l.length := (by omega); have hq9 : ∃ x, l[k]? = some x := ⟨_, List.getElem?_eq_getElem hkl⟩; obtain ⟨x, hx⟩ := hq9; have hq9 : ∃ p, l[k - 1]? = some p := ⟨_, List.getElem?_eq_getElem (by omega)⟩; obtain ⟨p, hp⟩ := hq9; have hcx := hbo.cell (u := 35) idC_len hx; have hcp := hbo.cell (u := 35) idC_len hp; have hnx := srt_next (m := k - 1) hsort hcan (by rw [show k - 1 + 1 = k from by omega]; exact hset) hp (by rw [show k - 1 + 1 = k from by omega]; exact hx); rw [show k - 1 + 1 = k from by omega] at hnx
   refine pn_drawT [3, 8] [] [] [] (bldMx 35 idC l (some (b0, cap0, tl0)) ++ HC) rfl rfl (by kernel_rfl) (by kernel_rfl) rfl rfl (qm rfl (qm rfl (qq rfl (RD.indexX (i := k) (len := l.length) (cap := cap0) (b := b0) (off := 0) runUnderlying41 sizeOf35 rfl rfl rfl hkl) (qq rfl (RD.as (v := idV x) (RD.loadX (vs := idC x) isAgg35 sizeOf35 rfl rfl (fun w hw j u hu => hcx w hw.s j u hu)) (idC_agg _)) (qm rfl (qm rfl (qq rfl (RD.subI rfl rfl (by omega) (by omega)) (qq rfl (RD.indexX (i := k - 1) (len := l.length) (cap := cap0) (b := b0) (off := 0) runUnderlying41 sizeOf35 rfl rfl (by omega) (by omega)) (qq rfl (RD.as (v := idV p) (RD.loadX (vs := idC p) isAgg35 sizeOf35 rfl rfl (fun w hw j u hu => hcp w hw.s j u hu)) (idC_agg _)) ?_)))))))))
   refine qq rfl (RD.eql_agg eqGuardType35 (eq_id x p) rfl rfl) (TE_nil ?_)
   first | refine pn_condD rfl (fun hc2 => ?_) (fun hc2 => ?_) | refine pn_condN rfl (fun hc2 => ?_) (fun hc2 => ?_) | refine pn_cond rfl (fun hc2 => ?_) (fun hc2 => ?_)
   ·refine sq (pl (qm rfl (qm rfl (qq rfl (RD.as (v := .slice (some ⟨b0, 0 + k * 32, none⟩) (l.length - k) (cap0 - k)) (RD.sliceX (l := k) (h := l.length) runUnderlying41 sizeOf35 rfl hRl ⟨_, rfl⟩ rfl (by omega) (Nat.le_refl _)) (by have hcl : l.length ≤ cap0 := hbo.1; show subVx 32 k l.length (.slice (some ⟨b0, 0, none⟩) l.length cap0) = _; simp only [subVx, ite_self]; rw [if_neg (by omega)])) (qa rfl (n0 (sq (sq (pl ?_)))))))))
    refine qa rfl (n0 (pn_block ?_))
    obtain ⟨k0, rfl⟩ : ∃ k0, k0 = k := ⟨k, rfl⟩; refine pn_loop (σ := Nat × Nat × List (Nat → Int)) (fun q => [(5, .int .i64 (q.2.1 : Int)), (3, .int .i64 (q.1 : Int)), (4, .slice (some ⟨b0, 0 + k0 * 32, none⟩) (l.length - k0) (cap0 - k0)), (0, .slice (some ⟨b0, 0, none⟩) l.length cap0)]) (fun q => bldMx 35 idC q.2.2 (some (b0, cap0, tl0)) ++ HC) (fun q => k0 ≤ q.1 ∧ q.1 < k0 + q.2.1 ∧ 1 ≤ q.2.1 ∧ k0 + q.2.1 ≤ l.length ∧ q.2.2.length = l.length ∧ BldOk 32 idC q.2.2 (some (b0, cap0, tl0)) ∧ SetOf (l.take (k0 + q.2.1)) (q.2.2.take q.1) ∧ ∀ j, k0 + q.2.1 - 1 ≤ j → q.2.2[j]? = l[j]?) (fun q => l.length - q.2.1) (k0, 1, l) ⟨Nat.le_refl _, Nat.lt_succ_self _, Nat.le_refl _, by show k0 + 1 ≤ l.length; omega, rfl, hbo, hnx.1 (by simpa using hc2), fun _ _ => rfl⟩ ⟨rfl, rfl, rfl, rfl, trivial⟩ (List.Sublist.refl _) ?_
    rintro ⟨k, k2, zs⟩ ⟨hk3, hk4, hk5, hk6, hzl, hbz, hset2, hdr⟩; dsimp only at hk3 hk4 hk5 hk6 hzl hset2 hdr ⊢; have hbz : BldOk 32 idC zs (some (b0, cap0, tl0)) := hbz
    refine sq (sq (pn_plain [2] rfl (qm rfl (qm rfl (qq rfl (RD.len_slice runUnderlying41 rfl) (qq rfl (RD.lss rfl rfl) (n0 ?_)))))))
    first | refine pn_condD rfl (fun hc3 => ?_) (fun hc3 => ?_) | refine pn_condN rfl (fun hc3 => ?_) (fun hc3 => ?_) | refine pn_cond rfl (fun hc3 => ?_) (fun hc3 => ?_)
    ·refine sk (sq (pn_block (sq ?_)))
     have hjl : k0 + k2 < l.length := (by omega); have hq9 : ∃ x, l[k0 + k2]? = some x := ⟨_, List.getElem?_eq_getElem hjl⟩; obtain ⟨y, hy⟩ := hq9; have hq9 : ∃ q, l[k0 + k2 - 1]? = some q := ⟨_, List.getElem?_eq_getElem (by omega)⟩; obtain ⟨q, hq⟩ := hq9; have hyz := hdr (k0 + k2) (by omega); have hqz := hdr (k0 + k2 - 1) (by omega); rw [hy] at hyz; rw [hq] at hqz; have hcy := hbz.cell (u := 35) idC_len hyz; have hcq := hbz.cell (u := 35) idC_len hqz; rw [show 0 + (k0 + k2) * 32 = 0 + k0 * 32 + k2 * 32 from by omega] at hcy; rw [show 0 + (k0 + k2 - 1) * 32 = 0 + k0 * 32 + (k2 - 1) * 32 from by omega] at hcq; have hnx := srt_next (m := k0 + k2 - 1) hsort hcan (by rw [show k0 + k2 - 1 + 1 = k0 + k2 from by omega]; exact hset2) hq (by rw [show k0 + k2 - 1 + 1 = k0 + k2 from by omega]; exact hy); rw [show k0 + k2 - 1 + 1 = k0 + k2 from by omega] at hnx
     refine pn_drawT [3, 8] [] [] [] (bldMx 35 idC zs (some (b0, cap0, tl0)) ++ HC) rfl rfl (by kernel_rfl) (by kernel_rfl) rfl rfl (qm rfl (qm rfl (qq rfl (RD.indexX (i := k2) (len := l.length - k0) (cap := cap0 - k0) (b := b0) (off := 0 + k0 * 32) runUnderlying41 sizeOf35 rfl rfl rfl (by omega)) (qq rfl (RD.as (v := idV y) (RD.loadX (vs := idC y) isAgg35 sizeOf35 rfl rfl (fun w hw j u hu => hcy w hw.s j u hu)) (idC_agg _)) (qm rfl (qm rfl (qq rfl (RD.subI rfl rfl (by omega) (by omega)) (qq rfl (RD.indexX (i := k2 - 1) (len := l.length - k0) (cap := cap0 - k0) (b := b0) (off := 0 + k0 * 32) runUnderlying41 sizeOf35 rfl rfl (by omega) (by omega)) (qq rfl (RD.as (v := idV q) (RD.loadX (vs := idC q) isAgg35 sizeOf35 rfl rfl (fun w hw j u hu => hcq w hw.s j u hu)) (idC_agg _)) ?_)))))))))
     refine qq rfl (RD.neq_agg eqGuardType35 (eq_id y q) rfl rfl) (TE_nil ?_)
     first | refine pn_condD rfl (fun hc4 => ?_) (fun hc4 => ?_) | refine pn_condN rfl (fun hc4 => ?_) (fun hc4 => ?_) | refine pn_cond rfl (fun hc4 => ?_) (fun hc4 => ?_)
     ·refine sq (psp (bldMx 35 idC zs (some (b0, cap0, tl0)) ++ HC) (pl (qm rfl (qm rfl (qm rfl (qm rfl (qq rfl (RD.indexX (i := k2) (len := l.length - k0) (cap := cap0 - k0) (b := b0) (off := 0 + k0 * 32) runUnderlying41 sizeOf35 rfl rfl rfl (by omega)) (ql rfl (RD.as (v := idV y) (RD.loadX (vs := idC y) isAgg35 sizeOf35 rfl rfl (fun w hw j u hu => hcy w hw.s j u hu)) (idC_agg _)) (qq rfl (RD.indexX (i := k) (len := l.length) (cap := cap0) (b := b0) (off := 0) runUnderlying41 sizeOf35 rfl rfl rfl (by omega)) ?_)))))))))
      refine TE_setE (i := k) (z := y) HC idC_len idC_one rfl rfl sizeOf35 trivial rfl rfl rfl (by omega) (by omega) (.inr (by simp [keys, bldMx])) (n0 (pl (qm rfl (qq rfl (RD.addI rfl rfl (by omega) (by omega)) (qa rfl (n0 (pl (qm rfl (qq rfl (RD.addI rfl rfl (by omega) (by omega)) ?_)))))))))
      refine qa rfl (n0 ?_)
      (first | exact pn_again (k + 1, k2 + 1, zs.set k y) ⟨by show k0 ≤ k + 1; omega, by show k + 1 < k0 + (k2 + 1); omega, by show 1 ≤ k2 + 1; omega, by show k0 + (k2 + 1) ≤ _; omega, by show (zs.set k y).length = _; rw [List.length_set]; exact hzl, hbz.set idC_len k y, by show SetOf (l.take (k0 + k2 + 1)) ((zs.set k y).take (k + 1)); rw [set_take y (by omega)]; exact hnx.2 (by simpa using hc4), fun j hj => by show (zs.set k y)[j]? = _; have hj' : k0 + (k2 + 1) - 1 ≤ j := hj; rw [List.getElem?_set_ne (by omega)]; exact hdr j (by omega)⟩ (by show l.length - (k2 + 1) < l.length - k2; omega) ⟨rfl, rfl, rfl, rfl, trivial⟩ (List.Sublist.refl _) | exact pn_again (k, k2 + 1, zs) ⟨hk3, by show k < k0 + (k2 + 1); omega, by show 1 ≤ k2 + 1; omega, by show k0 + (k2 + 1) ≤ _; omega, hzl, hbz, hnx.1 (by simpa using hc4), fun j hj => hdr j (by have hj' : k0 + (k2 + 1) - 1 ≤ j := hj; omega)⟩ (by show l.length - (k2 + 1) < l.length - k2; omega) ⟨rfl, rfl, rfl, rfl, trivial⟩ (List.Sublist.refl _))
     ·refine sk (pl (qm rfl (qq rfl (RD.addI rfl rfl (by omega) (by omega)) (qa rfl (n0 ?_)))))
      (first | exact pn_again (k + 1, k2 + 1, zs.set k y) ⟨by show k0 ≤ k + 1; omega, by show k + 1 < k0 + (k2 + 1); omega, by show 1 ≤ k2 + 1; omega, by show k0 + (k2 + 1) ≤ _; omega, by show (zs.set k y).length = _; rw [List.length_set]; exact hzl, hbz.set idC_len k y, by show SetOf (l.take (k0 + k2 + 1)) ((zs.set k y).take (k + 1)); rw [set_take y (by omega)]; exact hnx.2 (by simpa using hc4), fun j hj => by show (zs.set k y)[j]? = _; have hj' : k0 + (k2 + 1) - 1 ≤ j := hj; rw [List.getElem?_set_ne (by omega)]; exact hdr j (by omega)⟩ (by show l.length - (k2 + 1) < l.length - k2; omega) ⟨rfl, rfl, rfl, rfl, trivial⟩ (List.Sublist.refl _) | exact pn_again (k, k2 + 1, zs) ⟨hk3, by show k < k0 + (k2 + 1); omega, by show 1 ≤ k2 + 1; omega, by show k0 + (k2 + 1) ≤ _; omega, hzl, hbz, hnx.1 (by simpa using hc4), fun j hj => hdr j (by have hj' : k0 + (k2 + 1) - 1 ≤ j := hj; omega)⟩ (by show l.length - (k2 + 1) < l.length - k2; omega) ⟨rfl, rfl, rfl, rfl, trivial⟩ (List.Sublist.refl _))
    ·refine xt (sq (psp (bldMx 35 idC zs (some (b0, cap0, tl0)) ++ HC) (pl (qm rfl (qm rfl (qq rfl (RD.sliceX (l := k) (h := l.length) runUnderlying41 sizeOf35 rfl hRl ⟨_, rfl⟩ rfl (by omega) (Nat.le_refl _)) (TE_clearX (n := k) (l := zs) HC idC_len rfl rfl rfl trivial underlying41 zeroValue35 rfl zeroI_one (by show some (subVx 32 k l.length (.slice (some ⟨b0, 0, none⟩) l.length cap0)) = _; rw [← hzl]; rfl) (by omega) hbz (.inr (by simp [keys, bldMx])) ?_)))))))
     intro tl' hbt
     exact n0 (sq (pl (qm rfl (qm rfl (qq rfl (RD.sliceX (l := 0) (h := k) runUnderlying41 sizeOf35 rfl hRl rfl ⟨_, rfl⟩ (Nat.zero_le _) (by omega)) (qa rfl (n0 (rt (pn_done rfl rfl ⟨zs.take k, some (b0, cap0, tl'), by rwa [List.take_of_length_le (by omega)] at hset2, hbt, subVx_pre (n := l.length) (by rw [List.length_take]; omega), rfl⟩ (List.sublist_append_left _ _) (fun e he => .inl (by simp only [bldMx, List.mem_cons, List.not_mem_nil, or_false] at he; subst he; simp [keys, bldMx])))))))))))
   ·refine sk (pl (qm rfl (qq rfl (RD.addI rfl rfl (by omega) (by omega)) (qa rfl (n0 ?_)))))
    (exact pn_again (k + 1) ⟨by omega, by omega, by have h9 := hnx.2 (by simpa using hc2); rwa [← take_succ_of hx] at h9⟩ (by show l.length - (k + 1) < l.length - k; omega) ⟨rfl, rfl, trivial⟩ (List.Sublist.refl _))
  ·exact xt (sq (pl (qm rfl (qa rfl (n0 (rt (pn_done rfl rfl ⟨l, some (b0, cap0, tl0), setOf_take hset (by omega), hbo, rfl, rfl⟩ (List.sublist_append_left _ _) (fun e he => .inl (List.mem_map_of_mem he)))))))))
theorem c_hashSet (HX : Mem) (v : Value) (l : List (Nat → Int)) (w : World) (hb : Rdx 32 idC HX v l) (hcan : ∀ x ∈ l, IdCan x) (hok : ∀ x ∈ l, IdOk x) (hlen : l.length ≤ 1000000) (hH : Hp HX w) : Calls Tryz.prog 35 #[v] w (Ret w [] fun r H1 => ∃ xs st, SetOf l xs ∧ BldOk 32 idC xs st ∧ r = bldVx xs st ∧ H1 = bldMx 35 idC xs st) := by
 refine fn_enter (args := [_]) func35 rfl ntmps35 rfl hH (sq (pl (qa rfl (n0 (sq (pl (qm rfl (TE_call rfl rfl trivial call90 rfl rfl rfl (fun w hs' => c_cloneI HX _ l w (hs'.hp.sp (fun a => by simp -failIfUnchanged <;> omega)) hb hlen) ?_))))))))
 rintro v5 H1 ⟨st, hbo, rfl, rfl⟩ hX1
 refine qa rfl (n0 (sq (pl (qm rfl (TE_callR HX (bldMx 35 idC l st) (fun a => by simp -failIfUnchanged <;> omega) rfl rfl trivial call91 rfl rfl rfl (fun e he => .inl (hX1 e he)) (fun w hs' => c_sortB IdOk _ zeroI_ok Tryz.sort91 isAgg35 sizeOf35 idC_len idC_one idCmp idCmp_irr idCmp_tr idCmp_nt 92 #[] call92 [] (fun x y W hx hy hW => (c_hashCmp x y W hx hy).mono (by rintro e w' ⟨v, H1, rfl, ⟨rfl, rfl⟩, h1, h2, h3⟩; exact ⟨_, [], rfl, rfl, h1, h2, h3⟩)) _ l st hbo hok w (hs'.hp.sp (fun a => by simp -failIfUnchanged <;> omega)) (by omega)) ?_)))))
 rintro v7 H1 ⟨rfl, xs, hperm, hsort, rfl, hveq, hbo'⟩ hX2
 refine n0 (sq (pl (qm rfl (TE_callR HX (bldMx 35 idC xs st) (fun a => by simp -failIfUnchanged <;> omega) rfl rfl trivial call93 rfl rfl rfl hX2 (fun w hs' => by have h := c_compact [] xs st w hbo' (fun x hx => hcan x (hperm.mem_iff.1 hx)) hsort (by rw [hperm.length_eq]; exact hlen) (hs'.hp.sp (fun a => by simp -failIfUnchanged <;> omega)); rw [hveq] at h; exact h) ?_))))
 rintro v9 H1 ⟨ys, st', hset, hbo'', rfl, rfl⟩ hX3
 exact qa rfl (n0 (rt (dS (bldMx 35 idC ys st') rfl rfl ⟨ys, st', hset.congr (fun x => hperm.mem_iff), hbo'', rfl, rfl⟩ hX3)))
end Go.Proofs.YtcmnmigcalibdaaGreatDoor

namespace Go.Proofs.YtcmnmigcalibdaaGreatDoor
open Go Go.Mv
set_option maxRecDepth 8000
instance : Inhabited Rec := ⟨⟨0, 0, fun _ => 0, ⟨#[]⟩, false, fun _ => 0⟩⟩
theorem bd_id0 (w : World) : (Instr.build 35 #[]).run Tryz.prog w = .ok (idV fun _ => 0) w := by
  simp [Instr.build, Tryz.zeroValue35, Tryz.runUnderlying35, Tryz.sizeOf5, Value.cells, Instr.fill, idV]
end Go.Proofs.YtcmnmigcalibdaaGreatDoor

namespace Go.Proofs.YtcmnmigcalibdaaGreatDoor
open Go Go.Mv
set_option maxRecDepth 8000
structure Lnk where
  k : Int
  id : Nat → Int
def lnkV (x : Lnk) : Value := .agg #[.int .i64 x.k, .int .u8 (x.id 0), .int .u8 (x.id 1), .int .u8 (x.id 2), .int .u8 (x.id 3), .int .u8 (x.id 4), .int .u8 (x.id 5), .int .u8 (x.id 6), .int .u8 (x.id 7), .int .u8 (x.id 8), .int .u8 (x.id 9), .int .u8 (x.id 10), .int .u8 (x.id 11), .int .u8 (x.id 12), .int .u8 (x.id 13), .int .u8 (x.id 14), .int .u8 (x.id 15), .int .u8 (x.id 16), .int .u8 (x.id 17), .int .u8 (x.id 18), .int .u8 (x.id 19), .int .u8 (x.id 20), .int .u8 (x.id 21), .int .u8 (x.id 22), .int .u8 (x.id 23), .int .u8 (x.id 24), .int .u8 (x.id 25), .int .u8 (x.id 26), .int .u8 (x.id 27), .int .u8 (x.id 28), .int .u8 (x.id 29), .int .u8 (x.id 30), .int .u8 (x.id 31)]
instance : Inhabited Lnk := ⟨⟨0, (fun _ => 0)⟩⟩
def same_lnk (x y : Lnk) : Bool := (decide (x.k = y.k) && (sameN 32 x.id y.id && true))
theorem eqd_lnk (d : Nat) (x y : Lnk) (w : World) : (Op.equalIn (d + 4) 60 (.agg (lnkV x).cells) (.agg (lnkV y).cells)).run Tryz.prog w = .ok (same_lnk x y) w := by
  refine eqF_of (d := d + 3) Tryz.underlying60 Tryz.stoodInHeld60 ?_
  refine eqF_cons (a := .int .i64 x.k) (b := .int .i64 y.k) (r := decide (x.k = y.k)) rfl (by simp [part, Tryz.isAgg3, lnkV, Value.cells]) (by simp [part, Tryz.isAgg3, lnkV, Value.cells]) (by rw [run_equalIn_int w (d + 2) _ .i64 .i64 _ _ Tryz.underlying3]; rfl) ?_
  refine eqF_cons (a := idV x.id) (b := idV y.id) rfl (by simp [part, Tryz.isAgg35, Tryz.sizeOf35, lnkV, idV, Value.cells]) (by simp [part, Tryz.isAgg35, Tryz.sizeOf35, lnkV, idV, Value.cells]) (eqIn_ints (d := d + 1) (k := .u8) (n := 32) Tryz.underlying35 info_u8 Tryz.underlying5 Tryz.isAgg5 cells_u8 (fun i hi => ⟨id_at _ hi, id_at _ hi⟩) w) eqF_nil
theorem eq_lnk (x y : Lnk) (w : World) : (Op.equalIn 10000 60 (.agg (lnkV x).cells) (.agg (lnkV y).cells)).run Tryz.prog w = .ok (same_lnk x y) w := eqd_lnk 9996 x y w
structure Ent where
  name : ByteArray
  k : Int
  id : Nat → Int
def entV (x : Ent) : Value := .agg #[.string x.name, .int .i64 x.k, .int .u8 (x.id 0), .int .u8 (x.id 1), .int .u8 (x.id 2), .int .u8 (x.id 3), .int .u8 (x.id 4), .int .u8 (x.id 5), .int .u8 (x.id 6), .int .u8 (x.id 7), .int .u8 (x.id 8), .int .u8 (x.id 9), .int .u8 (x.id 10), .int .u8 (x.id 11), .int .u8 (x.id 12), .int .u8 (x.id 13), .int .u8 (x.id 14), .int .u8 (x.id 15), .int .u8 (x.id 16), .int .u8 (x.id 17), .int .u8 (x.id 18), .int .u8 (x.id 19), .int .u8 (x.id 20), .int .u8 (x.id 21), .int .u8 (x.id 22), .int .u8 (x.id 23), .int .u8 (x.id 24), .int .u8 (x.id 25), .int .u8 (x.id 26), .int .u8 (x.id 27), .int .u8 (x.id 28), .int .u8 (x.id 29), .int .u8 (x.id 30), .int .u8 (x.id 31)]
instance : Inhabited Ent := ⟨⟨⟨#[]⟩, 0, (fun _ => 0)⟩⟩
theorem ent_all (x : Ent) : Value.agg ((entV x).cells.extract 0 (0 + 34)) = entV x := by kernel_rfl
def entC (x : Ent) : List Value := (entV x).cells.toList
theorem entC_len (x : Ent) : (entC x).length = 34 := rfl
theorem entC_one (x : Ent) : ∀ v ∈ entC x, v.oneCell' = true := List.all_eq_true.1 (show (entC x).all (fun v => v.oneCell') = true from rfl)
theorem entC_agg (x : Ent) : Value.agg (entC x).toArray = entV x := rfl
theorem el_ent : ElI Tryz.prog 119 34 56 (entV default) := by unfold ElI; kernel_rfl
def same_ent (x y : Ent) : Bool := (decide (x.name = y.name) && (decide (x.k = y.k) && (sameN 32 x.id y.id && true)))
theorem eqd_ent (d : Nat) (x y : Ent) (w : World) : (Op.equalIn (d + 4) 119 (.agg (entV x).cells) (.agg (entV y).cells)).run Tryz.prog w = .ok (same_ent x y) w := by
  refine eqF_of (d := d + 3) Tryz.underlying119 Tryz.stoodInHeld119 ?_
  refine eqF_cons (a := .string x.name) (b := .string y.name) rfl (by simp [part, Tryz.isAgg9, entV, Value.cells]) (by simp [part, Tryz.isAgg9, entV, Value.cells]) (eqIn_string Tryz.underlying9) ?_
  refine eqF_cons (a := .int .i64 x.k) (b := .int .i64 y.k) (r := decide (x.k = y.k)) rfl (by simp [part, Tryz.isAgg3, entV, Value.cells]) (by simp [part, Tryz.isAgg3, entV, Value.cells]) (by rw [run_equalIn_int w (d + 2) _ .i64 .i64 _ _ Tryz.underlying3]; rfl) ?_
  refine eqF_cons (a := idV x.id) (b := idV y.id) rfl (by simp [part, Tryz.isAgg35, Tryz.sizeOf35, entV, idV, Value.cells]) (by simp [part, Tryz.isAgg35, Tryz.sizeOf35, entV, idV, Value.cells]) (eqIn_ints (d := d + 1) (k := .u8) (n := 32) Tryz.underlying35 info_u8 Tryz.underlying5 Tryz.isAgg5 cells_u8 (fun i hi => ⟨id_at _ hi, id_at _ hi⟩) w) eqF_nil
theorem eq_ent (x y : Ent) (w : World) : (Op.equalIn 10000 119 (.agg (entV x).cells) (.agg (entV y).cells)).run Tryz.prog w = .ok (same_ent x y) w := eqd_ent 9996 x y w
structure Ob where
  k : Int
  data : List UInt8
  ents : List Ent
  t : Nat → Int
  pars : List (Nat → Int)
  tg : Lnk
  m : ByteArray
def objV (x : Ob) (v_data v_ents v_pars : Value) : Value := .agg #[.int .i64 x.k, v_data, v_ents, .int .u8 (x.t 0), .int .u8 (x.t 1), .int .u8 (x.t 2), .int .u8 (x.t 3), .int .u8 (x.t 4), .int .u8 (x.t 5), .int .u8 (x.t 6), .int .u8 (x.t 7), .int .u8 (x.t 8), .int .u8 (x.t 9), .int .u8 (x.t 10), .int .u8 (x.t 11), .int .u8 (x.t 12), .int .u8 (x.t 13), .int .u8 (x.t 14), .int .u8 (x.t 15), .int .u8 (x.t 16), .int .u8 (x.t 17), .int .u8 (x.t 18), .int .u8 (x.t 19), .int .u8 (x.t 20), .int .u8 (x.t 21), .int .u8 (x.t 22), .int .u8 (x.t 23), .int .u8 (x.t 24), .int .u8 (x.t 25), .int .u8 (x.t 26), .int .u8 (x.t 27), .int .u8 (x.t 28), .int .u8 (x.t 29), .int .u8 (x.t 30), .int .u8 (x.t 31), v_pars, .int .i64 x.tg.k, .int .u8 (x.tg.id 0), .int .u8 (x.tg.id 1), .int .u8 (x.tg.id 2), .int .u8 (x.tg.id 3), .int .u8 (x.tg.id 4), .int .u8 (x.tg.id 5), .int .u8 (x.tg.id 6), .int .u8 (x.tg.id 7), .int .u8 (x.tg.id 8), .int .u8 (x.tg.id 9), .int .u8 (x.tg.id 10), .int .u8 (x.tg.id 11), .int .u8 (x.tg.id 12), .int .u8 (x.tg.id 13), .int .u8 (x.tg.id 14), .int .u8 (x.tg.id 15), .int .u8 (x.tg.id 16), .int .u8 (x.tg.id 17), .int .u8 (x.tg.id 18), .int .u8 (x.tg.id 19), .int .u8 (x.tg.id 20), .int .u8 (x.tg.id 21), .int .u8 (x.tg.id 22), .int .u8 (x.tg.id 23), .int .u8 (x.tg.id 24), .int .u8 (x.tg.id 25), .int .u8 (x.tg.id 26), .int .u8 (x.tg.id 27), .int .u8 (x.tg.id 28), .int .u8 (x.tg.id 29), .int .u8 (x.tg.id 30), .int .u8 (x.tg.id 31), .string x.m]
instance : Inhabited Ob := ⟨⟨0, [], [], (fun _ => 0), [], (⟨0, (fun _ => 0)⟩ : Lnk), ⟨#[]⟩⟩⟩
theorem obj_all (x : Ob) (v_data v_ents v_pars : Value) : Value.agg ((objV x v_data v_ents v_pars).cells.extract 0 (0 + 70)) = objV x v_data v_ents v_pars := by kernel_rfl
theorem objV_one (x : Ob) (v_data v_ents v_pars : Value) (h_data : v_data.oneCell' = true) (h_ents : v_ents.oneCell' = true) (h_pars : v_pars.oneCell' = true) : ((objV x v_data v_ents v_pars).cells.toList.all fun u => u.oneCell') = true := by
  have h9 : ∀ u ∈ (objV x v_data v_ents v_pars).cells.toList, u.oneCell' = true := by
    intro u hu
    simp only [objV, Value.cells, List.mem_cons, List.not_mem_nil, or_false] at hu
    rcases hu with rfl | rfl | rfl | rfl | rfl | rfl | rfl | rfl | rfl | rfl | rfl | rfl | rfl | rfl | rfl | rfl | rfl | rfl | rfl | rfl | rfl | rfl | rfl | rfl | rfl | rfl | rfl | rfl | rfl | rfl | rfl | rfl | rfl | rfl | rfl | rfl | rfl | rfl | rfl | rfl | rfl | rfl | rfl | rfl | rfl | rfl | rfl | rfl | rfl | rfl | rfl | rfl | rfl | rfl | rfl | rfl | rfl | rfl | rfl | rfl | rfl | rfl | rfl | rfl | rfl | rfl | rfl | rfl | rfl | rfl <;> first | rfl | assumption
  exact List.all_eq_true.2 h9
theorem put_obj_data (x : Ob) (v_data v_ents v_pars : Value) (v : Value) (y : List UInt8) : (objV x v_data v_ents v_pars).cells.setIfInBounds 1 v = (objV { x with data := y } v v_ents v_pars).cells := by kernel_rfl
theorem put_obj_ents (x : Ob) (v_data v_ents v_pars : Value) (v : Value) (y : List Ent) : (objV x v_data v_ents v_pars).cells.setIfInBounds 2 v = (objV { x with ents := y } v_data v v_pars).cells := by kernel_rfl
theorem obj_t (x : Ob) (v_data v_ents v_pars : Value) : Value.agg ((objV x v_data v_ents v_pars).cells.extract 3 (3 + 32)) = idV x.t := by kernel_rfl
theorem put_obj_t (x : Ob) (v_data v_ents v_pars : Value) (y : Nat → Int) : putL (objV x v_data v_ents v_pars).cells 3 (idV y).cells.toList = (objV { x with t := y } v_data v_ents v_pars).cells := by kernel_rfl
theorem put_obj_pars (x : Ob) (v_data v_ents v_pars : Value) (v : Value) (y : List (Nat → Int)) : (objV x v_data v_ents v_pars).cells.setIfInBounds 35 v = (objV { x with pars := y } v_data v_ents v).cells := by kernel_rfl
theorem obj_tg (x : Ob) (v_data v_ents v_pars : Value) : Value.agg ((objV x v_data v_ents v_pars).cells.extract 36 (36 + 33)) = lnkV x.tg := by kernel_rfl
theorem put_obj_tg_k (x : Ob) (v_data v_ents v_pars : Value) (y : Int) : (objV x v_data v_ents v_pars).cells.setIfInBounds 36 (.int .i64 y) = (objV { x with tg := { x.tg with k := y } } v_data v_ents v_pars).cells := by kernel_rfl
theorem put_obj_tg_id (x : Ob) (v_data v_ents v_pars : Value) (y : Nat → Int) : putL (objV x v_data v_ents v_pars).cells 37 (idV y).cells.toList = (objV { x with tg := { x.tg with id := y } } v_data v_ents v_pars).cells := by kernel_rfl
theorem put_obj_m (x : Ob) (v_data v_ents v_pars : Value) (y : ByteArray) : (objV x v_data v_ents v_pars).cells.setIfInBounds 69 (.string y) = (objV { x with m := y } v_data v_ents v_pars).cells := by kernel_rfl

end Go.Proofs.YtcmnmigcalibdaaGreatDoor
