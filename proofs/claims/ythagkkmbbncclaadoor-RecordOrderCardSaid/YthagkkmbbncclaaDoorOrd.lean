import Derived.Test.YthagkkmbbncclaaDoorCmp
import Derived.Test.YthagkkmbbncclaaDoorMvE
import Derived.Test.YthagkkmbbncclaaDoorSrt
namespace Go.Proofs.YthagkkmbbncclaaDoor
open Go Go.Mv
set_option maxRecDepth 8000
def recC (r : Rec) : List Value := (recV r).cells.toList
theorem recC_len (r : Rec) : (recC r).length = 52 := rfl
theorem recC_one (r : Rec) : ∀ v ∈ recC r, v.oneCell' = true := List.all_eq_true.1 (show (recC r).all (fun v => v.oneCell') = true from rfl)
theorem recC_agg (r : Rec) : Value.agg (recC r).toArray = recV r := rfl
theorem bd_vec00 (w : World) : (Instr.build 26 #[]).run Tryd.prog w = .ok (vecV fun _ => 0) w := by
  simp [Instr.build, Tryd.zeroValue26, Tryd.runUnderlying26, Tryd.sizeOf24, Value.cells, Instr.fill, vecV]
theorem elRec : ElI Tryd.prog 30 52 136 (recV ⟨0, 0, fun _ => 0, ⟨#[]⟩, false, fun _ => 0⟩) := by unfold ElI; kernel_rfl

theorem c_far (x : Rec) (w : World) (hx : RecOk x) : Calls Tryd.prog 49 #[recV x] w (Ret w [] fun v H1 => v = .int .u64 (farV x.ctx) ∧ H1 = []) := by
  refine fn_enter (args := [_]) Tryd.func49 rfl Tryd.ntmps49 rfl (Hp.nil w) ?_
  refine pn_seq ?_
  refine pn_plain [] rfl ?_
  refine TE_box rfl rfl trivial rfl fun b1 hb1 => ?_
  refine TE_q rfl rfl (RD.assign rfl) rfl ?_
  refine TE_nil0 ?_
  refine pn_seq ?_
  refine pn_plain [] rfl ?_
  refine TE_q rfl rfl (RD.build (vs := []) rfl bd_vec00) rfl ?_
  refine TE_q rfl rfl (RD.fieldAddr (o := 2) Tryd.runUnderlying94 rfl rfl Tryd.sizeOf26 rfl) rfl ?_
  refine TE_l rfl rfl trivial rfl (RD.loadA (i := 0) Tryd.isAgg26 Tryd.sizeOf26 rfl rfl (Nat.le_of_ble_eq_true rfl) (rec_ctx' _)) rfl ?_
  refine TE_call rfl rfl trivial Tryd.call76 rfl rfl rfl (fun w hs' => c_vecLacks (fun _ => 0) x.ctx w (fun _ => by show (0 : Int) ≤ 0 ∧ (0 : Int) ≤ 4294967295; omega) hx.ctx) ?_
  rintro v6 H3 ⟨rfl, rfl⟩ -
  refine TE_q rfl rfl (RD.assign rfl) rfl ?_
  refine TE_nil0 ?_
  refine pn_ret ?_
  exact pn_done rfl rfl ⟨by rw [lacks0 hx.ctx]; rfl, rfl⟩ (List.nil_sublist _) (by simp)

theorem c_ord1 (bf : Nat) (x y : Rec) (w : World) (hx : RecOk x) (hy : RecOk y) (hH : Hp [(bf, .cells #[.func (.func 49) #[] #[]] 92 (0, 0))] w) : Calls Tryd.prog 52 #[recV x, recV y, .pointer (some ⟨bf, 0, none⟩)] w (Ret w [] fun v H1 => v = .int .i64 (recCmp x y) ∧ H1 = []) := by
  refine fn_enter (args := [_, _, _]) Tryd.func52 rfl Tryd.ntmps52 rfl hH ?_
  refine pn_seq ?_
  refine pn_plain [] rfl ?_
  refine TE_box rfl rfl trivial rfl fun b3 hb3 => ?_
  refine TE_box rfl rfl trivial rfl fun b4 hb4 => ?_
  refine TE_q rfl rfl (RD.assign rfl) rfl ?_
  refine TE_nil0 ?_
  refine pn_seq ?_
  refine pn_draw [0, 1, 3, 4, 8, 10] [] [0, 1, 2] rfl (by kernel_rfl) (by kernel_rfl) rfl rfl ?_
  refine TE_q rfl rfl (RD.load (i := 2) Tryd.isAgg92 rfl rfl rfl) rfl ?_
  refine TE_q rfl rfl (RD.loadA (i := 1) Tryd.isAgg30 Tryd.sizeOf30 rfl rfl (Nat.le_of_ble_eq_true rfl) (rec_all _)) rfl ?_
  refine TE_call rfl rfl trivial Tryd.call49 rfl rfl rfl (fun w hs' => c_far x w hx) ?_
  rintro v8 H2 ⟨rfl, rfl⟩ -
  refine TE_q rfl rfl (RD.load (i := 2) Tryd.isAgg92 rfl rfl rfl) rfl ?_
  refine TE_q rfl rfl (RD.loadA (i := 0) Tryd.isAgg30 Tryd.sizeOf30 rfl rfl (Nat.le_of_ble_eq_true rfl) (rec_all _)) rfl ?_
  refine TE_call rfl rfl trivial Tryd.call49 rfl rfl rfl (fun w hs' => c_far y w hy) ?_
  rintro v11 H5 ⟨rfl, rfl⟩ -
  refine TE_call rfl rfl trivial Tryd.call54 rfl rfl rfl (fun w hs' => c_cmpU (farV x.ctx) (farV y.ctx) w) ?_
  rintro v12 H6 ⟨rfl, rfl⟩ -
  refine TE_q rfl rfl (RD.fieldAddr (o := 0) Tryd.runUnderlying30 rfl rfl Tryd.sizeOf23 rfl) rfl ?_
  refine TE_q rfl rfl (RD.loadA (i := 1) Tryd.isAgg23 Tryd.sizeOf23 rfl rfl (Nat.le_of_ble_eq_true rfl) (rec_dot _)) rfl ?_
  refine TE_q rfl rfl (RD.fieldAddr (o := 0) Tryd.runUnderlying30 rfl rfl Tryd.sizeOf23 rfl) rfl ?_
  refine TE_q rfl rfl (RD.loadA (i := 0) Tryd.isAgg23 Tryd.sizeOf23 rfl rfl (Nat.le_of_ble_eq_true rfl) (rec_dot _)) rfl ?_
  refine TE_call rfl rfl trivial Tryd.call55 rfl rfl rfl (fun w hs' => c_dotCompare x.s x.c y.s y.c w) ?_
  rintro v17 H11 ⟨rfl, rfl⟩ -
  refine TE_buildSlice (cells := #[.int .i64 (Lib.compareInt (farV x.ctx) (farV y.ctx)), .int .i64 (dotCmp x.s x.c y.s y.c)]) rfl Tryd.runUnderlying122 Tryd.sizeOf3 Tryd.zeroValue3 rfl rfl rfl (by kernel_rfl) trivial rfl fun b18 hb18 => ?_
  refine TE_call rfl rfl trivial Tryd.call53 rfl rfl rfl (fun w hs' => c_or [_] _ [Lib.compareInt (farV x.ctx) (farV y.ctx), dotCmp x.s x.c y.s y.c] w (Rdx.blk (i := 0) (tl := []) encI_len rfl rfl (Nat.le_of_ble_eq_true rfl)) (Nat.le_of_ble_eq_true rfl) hs'.hp.left) ?_
  rintro v19 H13 ⟨rfl, rfl⟩ -
  refine TE_q rfl rfl (RD.assign rfl) rfl ?_
  refine TE_nil ?_
  refine pn_ret ?_
  exact pn_done rfl rfl ⟨rfl, rfl⟩ (List.nil_sublist _) (by simp)

theorem c_cloneR (H : Mem) (xv : Value) (ys : List Rec) (w : World) (hH : Hp H w) (hb : Rdx 52 recC H xv ys) (hlen : ys.length ≤ 1000000) : Calls Tryd.prog 50 #[xv] w (Ret w [] fun v H1 => ∃ st, BldOk 52 recC ys st ∧ v = bldVx ys st ∧ H1 = bldMx 30 recC ys st) := by
  rcases hb with ⟨rfl, rfl⟩ | ⟨b, off, cap, rfl, hcap, hcell⟩
  · refine fn_enter (args := [_]) Tryd.func50 rfl Tryd.ntmps50 rfl hH ?_
    refine pn_seq ?_
    refine pn_plain [] rfl ?_
    refine TE_q rfl rfl (RD.assign rfl) rfl ?_
    refine TE_nil0 ?_
    refine pn_seq ?_
    refine pn_seq ?_
    refine pn_plain [] rfl ?_
    refine TE_q rfl rfl (RD.move rfl) rfl ?_
    refine TE_q rfl rfl (RD.sl_eql_nil Tryd.runUnderlying53 rfl rfl) rfl ?_
    refine TE_nil0 ?_
    refine pn_condT rfl ?_
    refine pn_seq ?_
    refine pn_plain [] rfl ?_
    refine TE_q rfl rfl (RD.assign rfl) rfl ?_
    refine TE_nil0 ?_
    refine pn_ret ?_
    exact pn_done (H1 := []) rfl rfl ⟨none, rfl, rfl, rfl⟩ (List.nil_sublist _) (by simp)
  · have hb : Rdx 52 recC H (.slice (some ⟨b, off, none⟩) ys.length cap) ys := .inr ⟨b, off, cap, rfl, hcap, hcell⟩
    refine fn_enter (args := [_]) Tryd.func50 rfl Tryd.ntmps50 rfl hH ?_
    refine pn_seq ?_
    refine pn_plain [] rfl ?_
    refine TE_q rfl rfl (RD.assign rfl) rfl ?_
    refine TE_nil0 ?_
    refine pn_seq ?_
    refine pn_seq ?_
    refine pn_plain [] rfl ?_
    refine TE_q rfl rfl (RD.move rfl) rfl ?_
    refine TE_q rfl rfl (RD.sl_eql_nil Tryd.runUnderlying53 rfl rfl) rfl ?_
    refine TE_nil0 ?_
    refine pn_condF rfl ?_
    refine pn_skip ?_
    refine pn_seq ?_
    refine pn_plain [] rfl ?_
    refine TE_buildSlice0 rfl Tryd.runUnderlying53 Tryd.sizeOf30 trivial rfl fun b5 hb5 => ?_
    refine TE_q rfl rfl (RD.move rfl) rfl ?_
    refine TE_appendX (st := some (b5, 0, [])) (l := []) H recC_len recC_one rfl rfl rfl rfl trivial rfl Tryd.underlying53 elRec rfl rfl rfl ⟨Nat.le_refl _, by decide, rfl⟩ hb (fun _ hw => hw.sp (fun a => by simp -failIfUnchanged <;> omega)) (by simp; omega) rfl (bldx_all (fun k => w.heap.size ≤ k ∨ k ∈ []) (by rintro b cap tl ⟨⟩; exact .inl hb5)) ?_
    intro st hok hX _
    refine TE_q rfl rfl (RD.assign rfl) rfl ?_
    refine TE_nil0 ?_
    refine pn_ret ?_
    exact pn_done rfl rfl ⟨st, hok, rfl, rfl⟩ (List.sublist_append_left _ _) (fun e he => (hX e he).symm)

theorem cmpI_irr (x : Int) : Lib.compareInt x x = 0 := by unfold Lib.compareInt; simp
theorem cmpI_lt {x y : Int} : Lib.compareInt x y < 0 ↔ x < y := by
  unfold Lib.compareInt; split
  · rename_i h; simp [h]
  · rename_i h; split <;> simp [h]
theorem cmpI_0 {x y : Int} : Lib.compareInt x y = 0 ↔ x = y := by
  unfold Lib.compareInt; split
  · rename_i h; simp; omega
  · split
    · rename_i h; simp; omega
    · simp; omega
theorem orI2 (x y : Int) : orI [x, y] < 0 ↔ x < 0 ∨ (x = 0 ∧ y < 0) := by
  simp only [orI]
  split
  · rename_i h; subst h
    split
    · rename_i h; subst h; simp
    · simp
  · rename_i h; simp [h]
theorem orI2_0 (x y : Int) : orI [x, y] = 0 ↔ x = 0 ∧ y = 0 := by
  simp only [orI]
  split
  · rename_i h; subst h
    split
    · rename_i h; subst h; simp
    · simp
  · rename_i h; simp [h]
theorem dotCmp_lt {s c s' c' : Int} : dotCmp s c s' c' < 0 ↔ s < s' ∨ (s = s' ∧ c < c') := by
  unfold dotCmp; rw [orI2, cmpI_lt, cmpI_0, cmpI_lt]
theorem recCmp_lt {x y : Rec} : recCmp x y < 0 ↔ farV x.ctx < farV y.ctx ∨ (farV x.ctx = farV y.ctx ∧ (x.s < y.s ∨ (x.s = y.s ∧ x.c < y.c))) := by
  unfold recCmp; rw [orI2, cmpI_lt, cmpI_0, dotCmp_lt]
theorem recCmp_irr (x : Rec) : ¬ recCmp x x < 0 := by rw [recCmp_lt]; omega
theorem recCmp_tr (x y z : Rec) (h1 : recCmp x y < 0) (h2 : recCmp y z < 0) : recCmp x z < 0 := by rw [recCmp_lt] at *; omega
theorem recCmp_nt (x y z : Rec) (h1 : ¬ recCmp x y < 0) (h2 : ¬ recCmp y z < 0) : ¬ recCmp x z < 0 := by rw [recCmp_lt] at *; omega
theorem zeroR_ok : RecOk ⟨0, 0, fun _ => 0, ⟨#[]⟩, false, fun _ => 0⟩ := ⟨by simp [i64Ok], by simp [i64Ok], fun _ => by simp, fun _ => by simp⟩
def dotK (r : Rec) : Int × Int := (r.s, r.c)
def ekD (k : Int × Int) : Value := dotV k.1 k.2
def evI (n : Int) : Value := .int .i64 n
theorem keyDot : KeyQ Tryd.prog 23 ekD where
  eq a b w := by
    have h := eq_dot a.1 a.2 b.1 b.2 w
    have e : (decide (a.1 = b.1) && decide (a.2 = b.2)) = decide (a = b) := by
      rw [← Bool.decide_and]; exact decide_eq_decide.2 Prod.ext_iff.symm
    rw [← e]; exact h
  chk e a w := by
    cases e <;> kernel_rfl
  far d a b := by cases d <;> rfl
  bits a := by simp [ekD, dotV, Instr.sameBits]
  und := ⟨_, Tryd.underlying23⟩
/-- P12.3: may records be sorted? -/
def ordOk (l : List Rec) : Bool := l.all recOkB && decide ((l.map dotK).Nodup)
theorem ordOk_perm {l m : List Rec} (h : l.Perm m) : ordOk l = ordOk m := by
  unfold ordOk
  rw [h.all_eq, decide_eq_decide.2 (h.map dotK).nodup_iff]
theorem ordOk_T {l : List Rec} (h1 : ∀ j (hj : j < l.length), recOkB l[j] = true) (h2 : (l.map dotK).Nodup) : ordOk l = true := by
  simp only [ordOk, Bool.and_eq_true, List.all_eq_true, decide_eq_true_eq]
  exact ⟨fun x hx => by obtain ⟨j, hj, rfl⟩ := List.getElem_of_mem hx; exact h1 j hj, h2⟩
theorem ordOk_F1 {l : List Rec} {j : Nat} (hj : j < l.length) (h : recOkB l[j] = false) : ordOk l = false := by
  have : l.all recOkB = false := by rw [List.all_eq_false]; exact ⟨_, List.getElem_mem hj, by simp [h]⟩
  simp [ordOk, this]
theorem take_map_succ {l : List Rec} {j : Nat} (hj : j < l.length) : (l.take (j + 1)).map dotK = (l.take j).map dotK ++ [dotK l[j]] := by
  rw [List.take_succ_eq_append_getElem hj, List.map_append]; rfl
theorem ordOk_F2 {l : List Rec} {j : Nat} (hj : j < l.length) (h : dotK l[j] ∈ (l.take j).map dotK) : ordOk l = false := by
  have : ¬ (l.map dotK).Nodup := fun hn => by
    have h2 : ((l.take (j + 1)).map dotK).Nodup := hn.sublist ((List.take_sublist _ _).map dotK)
    rw [take_map_succ hj, List.nodup_append] at h2
    exact h2.2.2 _ h _ (by simp) rfl
  simp [ordOk, this]
/-- The dots that were met. -/
def MetOk (ds : List (Int × Int)) (l : List (ME (Int × Int) Int)) : Prop := ∀ k, mget k l = if k ∈ ds then some 1 else none
theorem MetOk.nil : MetOk [] [] := fun k => by simp [mget, mpos]
theorem MetOk.get {ds : List (Int × Int)} {l : List (ME (Int × Int) Int)} (h : MetOk ds l) (k : Int × Int) : (mget k l).getD 0 = if k ∈ ds then 1 else 0 := by
  rw [h k]; split <;> rfl
theorem MetOk.put {ds : List (Int × Int)} {l : List (ME (Int × Int) Int)} {c : Nat} (h : MetOk ds l) {k : Int × Int} (hk : k ∉ ds) : MetOk (ds ++ [k]) (mput k ((mget k l).getD 0 + 1) l c).1 := fun k' => by
  rw [mget_put, h.get, if_neg hk]
  by_cases h' : k' = k
  · subst h'; simp
  · rw [if_neg h', h k']; simp [h']

set_option maxHeartbeats 2000000 in

theorem c_order (HX : Mem) (v : Value) (l : List Rec) (g : Obj) (w : World) (hb : Rdx 52 recC ((0, g) :: HX) v l) (hok : ∀ r ∈ l, RecOk r) (hsz : ∀ r ∈ l, r.ref.size < 4294967281) (hlen : l.length ≤ 1000) (hg : GOk g) (hH : Hp ((0, g) :: HX) w) : Calls Tryd.prog 21 #[v] w (Ret w [] fun v H1 => (∃ xs st, xs.Perm l ∧ xs.Pairwise (fun x y => ¬ recCmp y x < 0) ∧ ordOk l = true ∧ v = .tuple #[bldVx xs st, .int .i64 0] ∧ H1 = bldMx 30 recC xs st ∧ BldOk 52 recC xs st) ∨ (ordOk l = false ∧ v = .tuple #[.slice none 0 0, .int .i64 120] ∧ H1 = [])) := by
  refine fn_enter (args := [_]) Tryd.func21 rfl Tryd.ntmps21 rfl hH ?_
  refine pn_seq ?_
  refine pn_plain [] rfl ?_
  refine TE_q rfl rfl (RD.assign rfl) rfl ?_
  refine TE_q rfl rfl (RD.assign rfl) rfl ?_
  refine TE_nil0 ?_
  refine pn_seq ?_
  refine pn_plain [] rfl ?_
  refine TE_alloc rfl Tryd.zeroValue92 trivial rfl fun b4 hb4 => ?_
  refine TE_storeW (i := 0) rfl Tryd.sizeOf92 trivial rfl rfl rfl rfl rfl rfl (.inl (by assumption)) ?_
  refine TE_nil0 ?_
  refine pn_seq ?_
  refine pn_plain [] rfl ?_
  refine TE_q rfl rfl (RD.move rfl) rfl ?_
  refine TE_call rfl rfl trivial Tryd.call50 rfl rfl rfl (fun w hs' => c_cloneR ((0, g) :: HX) _ l w (hs'.hp.sp (fun a => by simp -failIfUnchanged <;> omega)) hb (by omega)) ?_
  rintro v10 HC ⟨st, hbo, rfl, rfl⟩ hX1
  refine TE_q rfl rfl (RD.assign rfl) rfl ?_
  refine TE_nil0 ?_
  refine pn_seq ?_
  refine pn_plain [] rfl ?_
  refine TE_q rfl rfl (RD.move rfl) rfl ?_
  refine TE_q rfl rfl (RD.makeFunc rfl rfl) rfl ?_
  refine TE_callR ((b4, .cells #[.func (.func 49) #[] #[]] 92 (0, 0)) :: (0, g) :: HX) (bldMx 30 recC l st) (fun a => by simp -failIfUnchanged <;> omega) rfl rfl trivial Tryd.call51 rfl rfl rfl (fun e he => .inl (hX1 e he)) (fun w hs' => c_sortB RecOk _ zeroR_ok Tryd.sort51 Tryd.isAgg30 Tryd.sizeOf30 recC_len recC_one recCmp recCmp_irr recCmp_tr recCmp_nt 52 #[.pointer (some ⟨b4, 0, none⟩)] Tryd.call52 [(b4, .cells #[.func (.func 49) #[] #[]] 92 (0, 0))] (fun x y W hx hy hW => (c_ord1 b4 x y W hx hy hW).mono (by rintro e w' ⟨v, H1, rfl, ⟨rfl, rfl⟩, h1, h2, h3⟩; exact ⟨_, [], rfl, rfl, h1, h2, h3⟩)) _ l st hbo hok w (hs'.hp.sp (fun a => by simp -failIfUnchanged <;> omega)) (by omega)) ?_
  rintro v13 HS ⟨rfl, xs, hperm, hsort, rfl, hveq, hbo'⟩ hX2
  refine TE_nil0 ?_
  refine pn_seq ?_
  refine pn_sp ((0, g) :: bldMx 30 recC xs st) (fun a => by simp -failIfUnchanged <;> omega) ?_
  refine pn_plain [] rfl ?_
  refine TE_makeMap ekD evI rfl trivial rfl fun bm hbm => ?_
  refine TE_q rfl rfl (RD.assign rfl) rfl ?_
  refine TE_nil0 ?_
  refine pn_seq ?_
  refine pn_seq ?_
  refine pn_plain [1] rfl ?_
  refine TE_q rfl rfl (RD.move rfl) rfl ?_
  refine TE_q rfl rfl (RD.lenX (xs := xs) Tryd.runUnderlying53 rfl (hveq ▸ hbo'.rdx (u := 30) recC_len)) rfl ?_
  have hn : xs.length ≤ 1000 := (by rw [hperm.length_eq]; exact hlen); have hxok : ∀ r ∈ xs, RecOk r := (fun r hr => hok r (hperm.mem_iff.1 hr)); have hxsz : ∀ r ∈ xs, r.ref.size < 4294967281 := (fun r hr => hsz r (hperm.mem_iff.1 hr)); have hord := ordOk_perm hperm; have hRx : Rdx 52 recC (bldMx 30 recC xs st) (bldVx l st) xs := (hveq ▸ hbo'.rdx recC_len)
  refine TE_q rfl rfl (RD.move rfl) rfl ?_
  refine TE_nil0 ?_
  refine pn_block ?_
  refine pn_loop (σ := Nat × List (ME (Int × Int) Int) × Nat) (fun q => [(17, .int .i64 (q.1 : Int)), (16, .int .i64 xs.length), (15, bldVx l st), (6, .map (some bm)), (5, bldVx l st)]) (fun q => (bm, mapO ekD evI q.2.1 q.2.2) :: (0, g) :: bldMx 30 recC xs st) (fun q => q.1 ≤ xs.length ∧ MOk q.2.1 q.2.2 ∧ (∀ j (hj : j < xs.length), j < q.1 → recOkB xs[j] = true) ∧ ((xs.take q.1).map dotK).Nodup ∧ MetOk ((xs.take q.1).map dotK) q.2.1) (fun q => xs.length - q.1) (0, [], 0) ⟨Nat.zero_le _, MOk.nil 0, fun j _ h => absurd h (by omega), by simp, by simpa using MetOk.nil⟩ ⟨rfl, rfl, rfl, rfl, rfl, trivial⟩ (List.Sublist.refl _) ?_
  rintro ⟨i, ml, c⟩ ⟨hi, hmk, hall, hnd, hmt⟩; dsimp only at hi hmk hall hnd hmt ⊢
  refine pn_seq ?_
  refine pn_plain [] rfl ?_
  refine TE_q rfl rfl (RD.lss rfl rfl) rfl ?_
  refine TE_nil0 ?_
  refine pn_seq ?_
  first | refine pn_condD rfl (fun hc0 => ?_) (fun hc0 => ?_) | refine pn_condN rfl (fun hc0 => ?_) (fun hc0 => ?_) | refine pn_cond rfl (fun hc0 => ?_) (fun hc0 => ?_)
  · refine pn_skip ?_
    refine pn_seq ?_
    refine pn_block ?_
    refine pn_seq ?_
    have hlt : i < xs.length := (by omega); obtain ⟨b, off, cap, hv, hcap, hcell⟩ := hRx.at (List.getElem?_eq_getElem hlt)
    refine pn_plain [] rfl ?_
    refine TE_q rfl rfl (RD.indexX (i := i) Tryd.runUnderlying53 Tryd.sizeOf30 (congrArg some hv) rfl rfl hlt) rfl ?_
    refine TE_l rfl rfl trivial rfl (RD.as (v := recV (xs[i]'hlt)) (RD.loadX (vs := recC (xs[i]'hlt)) Tryd.isAgg30 Tryd.sizeOf30 rfl rfl (fun w hw j u hu => hcell w (hw.sp (fun a => by simp -failIfUnchanged <;> omega)) j u hu)) (recC_agg _)) rfl ?_
    refine TE_alloc rfl Tryd.zeroValue30 trivial rfl fun b8 hb8 => ?_
    refine TE_putW (i := 0) rfl Tryd.sizeOf30 trivial rfl rfl rfl rfl rfl rfl (.inl (by assumption)) ?_
    refine TE_nil0 ?_
    refine pn_seq ?_
    refine pn_cut (σ := Unit) (fun _ => [(8, .pointer (some ⟨b8, 0, none⟩)), (17, .int .i64 (i : Int)), (16, .int .i64 xs.length), (15, bldVx l st), (6, .map (some bm)), (5, bldVx l st)]) (fun _ => (b8, .cells (recV (xs[i]'hlt)).cells 30 (0, 0)) :: (bm, mapO ekD evI (mput (dotK (xs[i]'hlt)) ((mget (dotK (xs[i]'hlt)) ml).getD 0 + 1) ml c).1 (mput (dotK (xs[i]'hlt)) ((mget (dotK (xs[i]'hlt)) ml).getD 0 + 1) ml c).2) :: (0, g) :: bldMx 30 recC xs st) (fun _ => True) ?_ ?_
    · obtain ⟨j, e, hj, hn, hmat⟩ := ment_at (z := (0 : Int)) (x := dotK (xs[i]'hlt)) (l := ml) (c := c)
      refine pn_drawM [2] [1] [0, 2] (seqT [0, 1, 2] (.fork (seqT [3, 4, 5, 6, 7] .nil) (seqT [5, 3, 4, 6, 7] .nil))) [_, _, _] (bldMx 30 recC xs st) rfl rfl (by kernel_rfl) (by kernel_rfl) rfl rfl ?_
      refine TE_q rfl rfl (RD.move rfl) rfl ?_
      refine TE_q rfl rfl (RD.fieldAddr (o := 0) Tryd.runUnderlying30 rfl rfl Tryd.sizeOf23 rfl) rfl ?_
      refine TE_q rfl rfl (RD.loadA (v := dotV (xs[i]'hlt).s (xs[i]'hlt).c) (i := 0) Tryd.isAgg23 Tryd.sizeOf23 rfl rfl (Nat.le_of_ble_eq_true rfl) (rec_dot _)) rfl ?_
      refine TE_fork ?_ ?_
      · refine TE_l rfl rfl trivial rfl (RD.as (RD.lookupM (ek := ekD) (ev := evI) (i := 0) (a := dotK (xs[i]'hlt)) Tryd.underlying101 keyDot Tryd.zeroValue3 rfl rfl rfl) (getD_map (ev := evI) (z := 0) rfl)) rfl ?_
        refine TE_q rfl rfl (RD.addI rfl rfl (by have := hmt.get (dotK (xs[i]'hlt)); split at this <;> omega) (by have := hmt.get (dotK (xs[i]'hlt)); split at this <;> omega)) rfl ?_
        refine TE_mapEntry (ek := ekD) (ev := evI) (i := 0) (a := dotK (xs[i]'hlt)) (z := (0 : Int)) rfl trivial rfl Tryd.underlying101 keyDot Tryd.zeroValue3 rfl rfl rfl (.inl hbm) ?_
        refine TE_q rfl rfl (RD.extract rfl rfl) rfl ?_
        refine TE_entryStore (ek := ekD) (ev := evI) (i := 0) (j := j) (e := e) (v := (mget (dotK (xs[i]'hlt)) ml).getD 0 + 1) rfl trivial rfl rfl rfl rfl (hmk.ent 0 _) hj (by rw [hn]) (.inl hbm) ?_
        refine TE_nil ?_
        rw [(hmat ((mget (dotK (xs[i]'hlt)) ml).getD 0 + 1)).1, (hmat ((mget (dotK (xs[i]'hlt)) ml).getD 0 + 1)).2]
        exact pn_give () trivial ⟨rfl, rfl, rfl, rfl, rfl, rfl, trivial⟩ (fun _ hw => hw.sp (fun a => by simp -failIfUnchanged <;> omega))
      · refine TE_mapEntry (ek := ekD) (ev := evI) (i := 0) (a := dotK (xs[i]'hlt)) (z := (0 : Int)) rfl trivial rfl Tryd.underlying101 keyDot Tryd.zeroValue3 rfl rfl rfl (.inl hbm) ?_
        refine TE_l rfl rfl trivial rfl (RD.as (v := .int .i64 ((mget (dotK (xs[i]'hlt)) ml).getD 0)) (RD.lookupM (ek := ekD) (ev := evI) (i := 0) (a := dotK (xs[i]'hlt)) Tryd.underlying101 keyDot Tryd.zeroValue3 rfl rfl rfl) ((getD_map (ev := evI) (z := (0 : Int)) (v := .int .i64 0) rfl).trans (by rw [mget_ent]; rfl))) rfl ?_
        refine TE_q rfl rfl (RD.addI rfl rfl (by have := hmt.get (dotK (xs[i]'hlt)); split at this <;> omega) (by have := hmt.get (dotK (xs[i]'hlt)); split at this <;> omega)) rfl ?_
        refine TE_q rfl rfl (RD.extract rfl rfl) rfl ?_
        refine TE_entryStore (ek := ekD) (ev := evI) (i := 0) (j := j) (e := e) (v := (mget (dotK (xs[i]'hlt)) ml).getD 0 + 1) rfl trivial rfl rfl rfl rfl (hmk.ent 0 _) hj (by rw [hn]) (.inl hbm) ?_
        refine TE_nil ?_
        rw [(hmat ((mget (dotK (xs[i]'hlt)) ml).getD 0 + 1)).1, (hmat ((mget (dotK (xs[i]'hlt)) ml).getD 0 + 1)).2]
        exact pn_give () trivial ⟨rfl, rfl, rfl, rfl, rfl, rfl, trivial⟩ (fun _ hw => hw.sp (fun a => by simp -failIfUnchanged <;> omega))
      all_goals (exact pn_give () trivial ⟨rfl, rfl, rfl, rfl, rfl, rfl, trivial⟩ (fun _ hw => hw.sp (fun a => by simp -failIfUnchanged <;> omega)))
    rintro - -
    refine pn_seq ?_
    refine pn_plain [] rfl ?_
    refine TE_l rfl rfl trivial rfl (RD.loadA (i := 0) Tryd.isAgg30 Tryd.sizeOf30 rfl rfl (Nat.le_of_ble_eq_true rfl) (rec_all _)) rfl ?_
    refine TE_call (post := fun v H1 => v = .int .i64 (err (recOkB (xs[i]'hlt)) 120) ∧ H1 = []) rfl rfl trivial Tryd.call9 rfl rfl rfl (fun w hs' => c_recCheck (xs[i]'hlt) g w (hxok _ (List.getElem_mem hlt)) hg (hxsz _ (List.getElem_mem hlt)) (hs'.hp.sp (fun a => by simp -failIfUnchanged <;> omega))) ?_
    rintro v29 H1 ⟨rfl, rfl⟩ -
    refine TE_q rfl rfl (RD.neq rfl rfl) rfl ?_
    refine TE_q rfl rfl (RD.move rfl) rfl ?_
    (first | refine TE_isT ?_ | refine TE_isF ?_ | refine TE_dec (fun h903 => ?_) (fun h903 => ?_) | refine TE_ndec (fun h903 => ?_) (fun h903 => ?_) | refine TE_bool (fun h903 => ?_) (fun h903 => ?_))
    all_goals (first | (refine TE_s rfl rfl rfl rfl rfl ?_) | (refine TE_gq rfl rfl rfl rfl (RD.move rfl) rfl ?_))
    all_goals (first | (refine TE_s rfl rfl rfl rfl rfl ?_) | (refine TE_gq rfl rfl rfl rfl (RD.fieldAddr (o := 0) Tryd.runUnderlying30 rfl rfl Tryd.sizeOf23 rfl) rfl ?_))
    all_goals (first | (refine TE_s rfl rfl rfl rfl rfl ?_) | (refine TE_l rfl rfl ⟨_, rfl, rfl⟩ rfl (RD.loadA (i := 0) Tryd.isAgg23 Tryd.sizeOf23 rfl rfl (Nat.le_of_ble_eq_true rfl) (rec_dot _)) rfl ?_))
    all_goals (first | (refine TE_s rfl rfl rfl rfl rfl ?_) | (refine TE_l rfl rfl ⟨_, rfl, rfl⟩ rfl (RD.as (v := .int .i64 ((mget (dotK (xs[i]'hlt)) ml).getD 0 + 1)) (RD.lookupM (ek := ekD) (ev := evI) (i := 1) (a := dotK (xs[i]'hlt)) Tryd.underlying101 keyDot Tryd.zeroValue3 rfl rfl rfl) (by rw [mget_put, if_pos rfl]; rfl)) rfl ?_))
    all_goals (first | (refine TE_s rfl rfl rfl rfl rfl ?_) | (refine TE_gq rfl rfl rfl rfl (RD.gtr rfl rfl) rfl ?_))
    all_goals (first | (refine TE_q rfl rfl (RD.pickT rfl rfl) rfl ?_) | (refine TE_q rfl rfl (RD.pickF rfl rfl) rfl ?_))
    all_goals refine TE_nil0 ?_
    all_goals first
      | (
          refine pn_condT rfl ?_
          refine pn_seq ?_
          refine pn_plain [] rfl ?_
          refine TE_q rfl rfl (RD.assign rfl) rfl ?_
          refine TE_q rfl rfl (RD.assign rfl) rfl ?_
          refine TE_nil0 ?_
          refine pn_ret ?_
          first | exact pn_done (H1 := []) rfl rfl (.inr ⟨by rw [← hord]; exact ordOk_F1 hlt (err1 h903), rfl, rfl⟩) (List.nil_sublist _) (by simp) | exact pn_done (H1 := []) rfl rfl (.inr ⟨by rw [← hord]; exact ordOk_F2 hlt (by have := hmt.get (dotK (xs[i]'hlt)); split at this; assumption; omega), rfl, rfl⟩) (List.nil_sublist _) (by simp))
      | (
          refine pn_condF rfl ?_
          refine pn_skip ?_
          refine pn_plain [] rfl ?_
          refine TE_q rfl rfl (RD.addI rfl rfl (by omega) (by omega)) rfl ?_
          refine TE_q rfl rfl (RD.move rfl) rfl ?_
          refine TE_nil0 ?_
          (have hnew : dotK (xs[i]'hlt) ∉ (xs.take i).map dotK := (fun hm => by have := hmt.get (dotK (xs[i]'hlt)); rw [if_pos hm] at this; omega); exact pn_again (i + 1, (mput (dotK (xs[i]'hlt)) ((mget (dotK (xs[i]'hlt)) ml).getD 0 + 1) ml c).1, (mput (dotK (xs[i]'hlt)) ((mget (dotK (xs[i]'hlt)) ml).getD 0 + 1) ml c).2) ⟨by show i + 1 ≤ _; omega, hmk.put _ _, fun j hj h => by rcases Nat.lt_succ_iff_lt_or_eq.1 h with h | rfl; exact hall j hj h; exact err0 h903, by rw [take_map_succ hlt, List.nodup_append]; exact ⟨hnd, by simp, fun a ha b hb' => by simp only [List.mem_cons, List.not_mem_nil, or_false] at hb'; subst hb'; exact fun h => hnew (h ▸ ha)⟩, by rw [take_map_succ hlt]; exact hmt.put hnew⟩ (by show xs.length - (i + 1) < xs.length - i; omega) ⟨rfl, rfl, rfl, rfl, rfl, trivial⟩ (List.sublist_cons_self _ _)))
      | (
          first | refine pn_condD rfl (fun hc1 => ?_) (fun hc1 => ?_) | refine pn_condN rfl (fun hc1 => ?_) (fun hc1 => ?_) | refine pn_cond rfl (fun hc1 => ?_) (fun hc1 => ?_)
          · refine pn_seq ?_
            refine pn_plain [] rfl ?_
            refine TE_q rfl rfl (RD.assign rfl) rfl ?_
            refine TE_q rfl rfl (RD.assign rfl) rfl ?_
            refine TE_nil0 ?_
            refine pn_ret ?_
            first | exact pn_done (H1 := []) rfl rfl (.inr ⟨by rw [← hord]; exact ordOk_F1 hlt (err1 h903), rfl, rfl⟩) (List.nil_sublist _) (by simp) | exact pn_done (H1 := []) rfl rfl (.inr ⟨by rw [← hord]; exact ordOk_F2 hlt (by have := hmt.get (dotK (xs[i]'hlt)); split at this; assumption; omega), rfl, rfl⟩) (List.nil_sublist _) (by simp)
          · refine pn_skip ?_
            refine pn_plain [] rfl ?_
            refine TE_q rfl rfl (RD.addI rfl rfl (by omega) (by omega)) rfl ?_
            refine TE_q rfl rfl (RD.move rfl) rfl ?_
            refine TE_nil0 ?_
            (have hnew : dotK (xs[i]'hlt) ∉ (xs.take i).map dotK := (fun hm => by have := hmt.get (dotK (xs[i]'hlt)); rw [if_pos hm] at this; omega); exact pn_again (i + 1, (mput (dotK (xs[i]'hlt)) ((mget (dotK (xs[i]'hlt)) ml).getD 0 + 1) ml c).1, (mput (dotK (xs[i]'hlt)) ((mget (dotK (xs[i]'hlt)) ml).getD 0 + 1) ml c).2) ⟨by show i + 1 ≤ _; omega, hmk.put _ _, fun j hj h => by rcases Nat.lt_succ_iff_lt_or_eq.1 h with h | rfl; exact hall j hj h; exact err0 h903, by rw [take_map_succ hlt, List.nodup_append]; exact ⟨hnd, by simp, fun a ha b hb' => by simp only [List.mem_cons, List.not_mem_nil, or_false] at hb'; subst hb'; exact fun h => hnew (h ▸ ha)⟩, by rw [take_map_succ hlt]; exact hmt.put hnew⟩ (by show xs.length - (i + 1) < xs.length - i; omega) ⟨rfl, rfl, rfl, rfl, rfl, trivial⟩ (List.sublist_cons_self _ _)))
  · refine pn_exit ?_
    refine pn_seq ?_
    refine pn_plain [] rfl ?_
    refine TE_q rfl rfl (RD.move rfl) rfl ?_
    refine TE_q rfl rfl (RD.assign rfl) rfl ?_
    refine TE_q rfl rfl (RD.assign rfl) rfl ?_
    refine TE_nil0 ?_
    refine pn_ret ?_
    exact pn_done (H1 := bldMx 30 recC xs st) rfl rfl (.inl ⟨xs, st, hperm, hsort, by rw [← hord]; exact ordOk_T (fun j hj => hall j hj (by omega)) (by rwa [List.take_of_length_le (by omega)] at hnd), by rw [hveq]; rfl, rfl, hbo'⟩) (.cons _ (.cons _ (List.Sublist.refl _))) (fun e he => (hX2 e he).symm)

end Go.Proofs.YthagkkmbbncclaaDoor
