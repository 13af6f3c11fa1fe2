import Derived.Test.YtmjmaloapafnlaaGreatDoorGax
namespace Go.Proofs.YtmjmaloapafnlaaGreatDoor
open Go.Proofs.Tryz
open Go Go.Mv
set_option maxRecDepth 8000
theorem elBs : ElI Tryz.prog 32 1 24 (.slice none 0 0) := by unfold ElI; kernel_rfl
/-- A call of the statements on stores: its kind, its texts (where these lie: a, c). -/
structure OpM where
  k : Int
  a : Option Addr
  c : Nat
  l : List BSl
def OpM.v (x : OpM) : Value := .slice x.a x.l.length x.c
def opC (x : OpM) : List Value := [.int .i64 x.k, .slice x.a x.l.length x.c]
instance : Inhabited OpM := ⟨⟨0, none, 0, []⟩⟩
def OpsOk (H : Mem) (l : List OpM) : Prop := ∀ x ∈ l, Rdx 1 bsC H x.v x.l ∧ BsOk H x.l
def greatOps (l : List OpM) : Bool := decide (40 < l.length) || l.any fun o => decide (8 < o.l.length) || o.l.any fun x => decide (4100 < x.b.length)
theorem greatOps_1 {l : List OpM} {i : Nat} (hi : i < l.length) (h : 8 < ((gt l i).l.length : Int)) : greatOps l = true := by
  simp only [greatOps, Bool.or_eq_true, List.any_eq_true, decide_eq_true_eq]
  exact .inr ⟨_, gt_mem hi, .inl (by omega)⟩
theorem greatOps_2 {l : List OpM} {i j : Nat} (hi : i < l.length) (hj : j < (gt l i).l.length) (h : 4100 < ((gt (gt l i).l j).b.length : Int)) : greatOps l = true := by
  simp only [greatOps, Bool.or_eq_true, List.any_eq_true, decide_eq_true_eq]
  exact .inr ⟨_, gt_mem hi, .inr ⟨_, gt_mem hj, by omega⟩⟩
theorem all_gt {α : Type} [Inhabited α] {l : List α} {Q : α → Prop} (h : ∀ j, j < l.length → Q (gt l j)) : ∀ x ∈ l, Q x := fun x hx => by
  obtain ⟨j, hj⟩ := List.getElem?_of_mem hx
  have hl := (List.getElem?_eq_some_iff.1 hj).1
  rw [← gt_eq hj]; exact h j hl
theorem greatOps_3 {l : List OpM} (h : ∀ j, j < l.length → (gt l j).l.length ≤ 8 ∧ ∀ x ∈ (gt l j).l, x.b.length ≤ 4100) : decide (40 < (l.length : Int)) = greatOps l := by
  have h2 : (l.any fun o => decide (8 < o.l.length) || o.l.any fun x => decide (4100 < x.b.length)) = false := by
    rw [List.any_eq_false]
    intro o ho
    have h3 := all_gt (Q := fun o : OpM => o.l.length ≤ 8 ∧ ∀ x ∈ o.l, x.b.length ≤ 4100) h o ho
    simp only [Bool.or_eq_true, decide_eq_true_eq, List.any_eq_true, not_or, not_exists, not_and]
    exact ⟨by omega, fun x hx => by have := h3.2 x hx; omega⟩
  rw [greatOps, h2, Bool.or_false]
  exact decide_eq_decide.2 (by omega)
theorem greatOps_ok {l : List OpM} (h : greatOps l = false) : l.length ≤ 40 ∧ ∀ o ∈ l, o.l.length ≤ 8 ∧ ∀ x ∈ o.l, x.b.length ≤ 4100 := by
  simp only [greatOps, Bool.or_eq_false_iff, decide_eq_false_iff_not, List.any_eq_false, Bool.or_eq_true, decide_eq_true_eq, List.any_eq_true, not_or, not_exists, not_and] at h
  exact ⟨by omega, fun o ho => ⟨by have := (h.2 o ho).1; omega, fun x hx => by have := (h.2 o ho).2 x hx; omega⟩⟩
def textsB (l : List OpM) : List BSl := l.flatMap (·.l)
theorem textsB_ok {H : Mem} {l : List OpM} (h : OpsOk H l) : BsOk H (textsB l) := fun x hx => by
  simp only [textsB, List.mem_flatMap] at hx
  obtain ⟨o, ho, hx⟩ := hx
  exact (h o ho).2 x hx
theorem textsB_next {l : List OpM} {i : Nat} (hi : i < l.length) : textsB (l.take i) ++ (gt l i).l = textsB (l.take (i + 1)) := by
  rw [take_succ_of (gt_some hi)]; simp [textsB]
theorem flat_le {l : List OpM} {n : Nat} (h : ∀ o ∈ l, o.l.length ≤ n) : (textsB l).length ≤ n * l.length := by
  induction l with
  | nil => exact Nat.zero_le _
  | cons o l ih =>
    have h1 := ih fun x hx => h x (List.mem_cons_of_mem _ hx)
    have h2 := h o List.mem_cons_self
    simp only [textsB, List.flatMap_cons, List.length_append, List.length_cons] at h1 ⊢
    rw [Nat.mul_add]; omega
theorem textsB_le {l : List OpM} (h : greatOps l = false) : (textsB l).length ≤ 320 := by
  have h1 := greatOps_ok h
  have h2 := flat_le (n := 8) fun o ho => (h1.2 o ho).1
  omega
theorem textsB_b {l : List OpM} (h : greatOps l = false) : ∀ x ∈ textsB l, x.b.length ≤ 4100 := fun x hx => by
  simp only [textsB, List.mem_flatMap] at hx
  obtain ⟨o, ho, hx⟩ := hx
  exact ((greatOps_ok h).2 o ho).2 x hx
/-- Two unlike texts with one id. -/
def clashAt (l : List BSl) (i k : Nat) : Bool := (!decide ((gt l i).b = (gt l k).b)) && sameN 32 (shaF (gt l i).b) (shaF (gt l k).b)
def clashB (l : List BSl) : Bool := (List.range l.length).any fun i => (List.range i).any fun k => clashAt l i k
theorem clash_T {l : List BSl} {i k : Nat} (hi : i < l.length) (hk : k < i) (h : clashAt l i k = true) : clashB l = true :=
  List.any_eq_true.2 ⟨i, List.mem_range.2 hi, List.any_eq_true.2 ⟨k, List.mem_range.2 hk, h⟩⟩
theorem clash_F {l : List BSl} (h : ∀ i k, i < l.length → k < i → clashAt l i k = false) : clashB l = false := by
  refine List.any_eq_false.2 fun i hi => ?_
  rw [Bool.not_eq_true]
  refine List.any_eq_false.2 fun k hk => ?_
  rw [Bool.not_eq_true]
  exact h i k (List.mem_range.1 hi) (List.mem_range.1 hk)
theorem clash_at {l : List BSl} (h : clashB l = false) {i k : Nat} (hi : i < l.length) (hk : k < i) : clashAt l i k = false := by
  have h1 := List.any_eq_false.1 h i (List.mem_range.2 hi)
  rw [Bool.not_eq_true] at h1
  have h2 := List.any_eq_false.1 h1 k (List.mem_range.2 hk)
  rwa [Bool.not_eq_true] at h2
/-- No two unlike texts among these have one id. -/
theorem no_clash {l : List BSl} (h : clashB l = false) {x y : BSl} (hx : x ∈ l) (hy : y ∈ l) (hs : k8 x.b = k8 y.b) : x.b = y.b := by
  obtain ⟨i, hi⟩ := List.getElem?_of_mem hx
  obtain ⟨k, hk⟩ := List.getElem?_of_mem hy
  have li := (List.getElem?_eq_some_iff.1 hi).1
  have lk := (List.getElem?_eq_some_iff.1 hk).1
  have hsm : sameN 32 (shaF x.b) (shaF y.b) = true := sameN_iff.2 (kOf_inj (shaF_ok _) (shaF_ok _) hs)
  have hsm2 : sameN 32 (shaF y.b) (shaF x.b) = true := sameN_iff.2 (kOf_inj (shaF_ok _) (shaF_ok _) hs.symm)
  have key : ∀ {i k : Nat} {x y : BSl}, l[i]? = some x → l[k]? = some y → i < l.length → k < i → sameN 32 (shaF x.b) (shaF y.b) = true → x.b = y.b := fun hi hk li lki hs => by
    have h1 := clash_at h li lki
    rw [clashAt, gt_eq hi, gt_eq hk, hs, Bool.and_true] at h1
    simpa using h1
  rcases Nat.lt_trichotomy i k with h1 | h1 | h1
  · exact (key hk hi lk h1 hsm2).symm
  · subst h1; rw [hi] at hk; rw [Option.some.inj hk]
  · exact key hi hk li h1 hsm

theorem c_great8 (lv : Value) (l : List OpM) (HX : Mem) (w : World) (hbl : Rdx 2 (opC) HX lv l) (hbkl : OpsOk HX l) (hll : l.length ≤ 9223372036854775807 ∧ ∀ o ∈ l, o.l.length ≤ 9223372036854775807) (hH : Hp HX w) : Calls Tryz.prog 17 #[lv] w (Ret w [] fun v H1 => v = .bool (greatOps l) ∧ H1 = []) := by
 have hl1 := hll.1
 refine fn_enter (args := [_]) func17 rfl ntmps17 rfl hH (sq (pl (qa rfl (n0 (sq (sq (pn_plain [1] rfl (qm rfl (qq rfl (RD.lenX runUnderlying22 rfl hbl) ?_)))))))))
 refine qm rfl (n0 (pn_block (lpS (σ := Nat) (fun q => [(0, lv), (7, .int .i64 (l.length : Int)), (8, .int .i64 (q : Int))]) (fun q => HX) (fun q => (q ≤ l.length) ∧ (∀ j, j < q → (gt l j).l.length ≤ 8 ∧ ∀ x ∈ (gt l j).l, x.b.length ≤ 4100)) (fun q => l.length - q) 0 ⟨(by omega), (fun j hj => absurd hj (Nat.not_lt_zero _))⟩ ⟨rfl, rfl, rfl, trivial⟩ ?_)))
 rintro i ⟨hi, hall⟩
 refine sq (pl (qq rfl (RD.lss rfl rfl) (n0 (sq (pn_condD rfl (fun hc1 => ?_) (fun hc1 => ?_))))))
 ·refine sk (sq (pn_block (sq (pl (qm rfl (qa rfl (n0 (sq (sq ?_)))))))))
  refine pn_plain [5] rfl (qm rfl (qm rfl (qq rfl (RD.idxR (i := i) (o := (i * 2 + 0)) runUnderlying22 sizeOf67 rfl hbl rfl rfl (by omega) (by rfl)) (qq rfl (RD.fldR (i := i) (o' := (i * 2 + 1)) runUnderlying67 rfl (by rfl) sizeOf30 rfl hbl (by omega)) (ql rfl (RD.ldR (i := i) (j := 1) (u := (OpM.v (gt l i))) isAgg30 rfl hbl (gt_some (by omega)) (by rfl) rfl sb) (qq rfl (RD.lenX runUnderlying30 rfl (hbkl (gt l i) (gt_mem (by omega))).1) (qq rfl (RD.gtr rfl rfl) (n0 (pn_condD rfl (fun hc2 => ?_) (fun hc2 => ?_))))))))))
  ·exact sq (plG [] [] (qa rfl (n0 (rt (pn_doneS [] rfl rfl ⟨(congrArg Value.bool (greatOps_1 (i := i) (by omega) hc2).symm), rfl⟩ (fun _ => Nat.zero_le _) (fun _ he => nomatch he))))))
  ·refine sk (sq (pn_plain [5] rfl (qm rfl (qm rfl (qq rfl (RD.idxR (i := i) (o := (i * 2 + 0)) runUnderlying22 sizeOf67 rfl hbl rfl rfl (by omega) (by rfl)) (qq rfl (RD.fldR (i := i) (o' := (i * 2 + 1)) runUnderlying67 rfl (by rfl) sizeOf30 rfl hbl (by omega)) (ql rfl (RD.ldR (i := i) (j := 1) (u := (OpM.v (gt l i))) isAgg30 rfl hbl (gt_some (by omega)) (by rfl) rfl sb) (qq rfl (RD.lenX runUnderlying30 rfl (hbkl (gt l i) (gt_mem (by omega))).1) (qm rfl ?_)))))))))
   refine n0 (pn_block ?_)
   have hl2 := hll.2 _ (gt_mem (l := l) (i := i) (by omega))
   refine lpS (σ := Nat) (fun q => [(0, lv), (7, .int .i64 (l.length : Int)), (8, .int .i64 (i : Int)), (22, (OpM.v (gt l i))), (23, .int .i64 (((gt l i).l).length : Int)), (24, .int .i64 (q : Int))]) (fun q => HX) (fun q => (q ≤ (gt l i).l.length) ∧ (∀ j, j < q → (gt (gt l i).l j).b.length ≤ 4100)) (fun q => (gt l i).l.length - q) 0 ⟨(by omega), (fun j hj => absurd hj (Nat.not_lt_zero _))⟩ ⟨rfl, rfl, rfl, rfl, rfl, rfl, trivial⟩ ?_
   rintro i1 ⟨hi1, hin⟩
   refine sq (pl (qq rfl (RD.lss rfl rfl) (n0 (sq (pn_condD rfl (fun hc3 => ?_) (fun hc3 => ?_))))))
   ·refine sk (sq (pn_block (sq (pl (qq rfl (RD.idxR (i := i1) (o := (i1 * 1 + 0)) runUnderlying30 sizeOf32 rfl (hbkl (gt l i) (gt_mem (by omega))).1 rfl rfl (by omega) (by rfl)) (ql rfl (RD.ldR (i := i1) (j := 0) (u := (BSl.v (gt ((gt l i).l) i1))) isAgg32 rfl (hbkl (gt l i) (gt_mem (by omega))).1 (gt_some (by omega)) (by rfl) rfl sb) (qa rfl (n0 (sq ?_)))))))))
    refine pn_plain [1] rfl (qm rfl (qq rfl (RD.lenR runUnderlying32 rfl ((hbkl (gt l i) (gt_mem (by omega))).2 (gt ((gt l i).l) i1) (gt_mem (by omega)))) (qq rfl (RD.gtr rfl rfl) (n0 (pn_condD rfl (fun hc4 => ?_) (fun hc4 => ?_))))))
    ·exact sq (plG [] [] (qa rfl (n0 (rt (pn_doneS [] rfl rfl ⟨(congrArg Value.bool (greatOps_2 (i := i) (j := i1) (by omega) (by omega) hc4).symm), rfl⟩ (fun _ => Nat.zero_le _) (fun _ he => nomatch he))))))
    ·exact sk (pl (qq rfl (RD.addI rfl rfl (by omega) (by omega)) (qm rfl (n0 (agS (i1 + 1) ⟨(by omega), (fun j hj => if h : j = i1 then by subst h; omega else hin j (by omega))⟩ (by omega) ⟨rfl, rfl, rfl, rfl, rfl, rfl, trivial⟩)))))
   ·exact xt (pl (qq rfl (RD.addI rfl rfl (by omega) (by omega)) (qm rfl (n0 (agS (i + 1) ⟨(by omega), (fun j hj => (by rcases Nat.lt_or_ge j i with h | h; exact hall j h; obtain rfl : j = i := (by omega); exact ⟨by omega, all_gt fun j hj => hin j (by omega)⟩))⟩ (by omega) ⟨rfl, rfl, rfl, trivial⟩)))))
 ·exact xt (sq (pn_plain [1] rfl (qm rfl (qq rfl (RD.lenX runUnderlying22 rfl hbl) (qq rfl (RD.gtr rfl rfl) (qa rfl (n0 (rt (pn_doneS [] rfl rfl ⟨(congrArg Value.bool (greatOps_3 fun j hj => hall j (by omega))), rfl⟩ (fun _ => Nat.zero_le _) (fun _ he => nomatch he))))))))))
end Go.Proofs.YtmjmaloapafnlaaGreatDoor
