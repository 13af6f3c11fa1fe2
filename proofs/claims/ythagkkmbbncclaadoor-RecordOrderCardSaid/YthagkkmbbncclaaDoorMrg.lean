import Derived.Test.YthagkkmbbncclaaDoorOrd
import Derived.Test.YthagkkmbbncclaaDoorEqr
namespace Go.Proofs.YthagkkmbbncclaaDoor
open Go Go.Mv
set_option maxRecDepth 8000
def vecC (v : Nat → Int) : List Value := (vecV v).cells.toList
theorem vecC_len (v : Nat → Int) : (vecC v).length = 16 := rfl
theorem vecC_one (v : Nat → Int) : ∀ x ∈ vecC v, x.oneCell' = true := List.all_eq_true.1 (show (vecC v).all (fun x => x.oneCell') = true from rfl)
theorem vecC_agg (v : Nat → Int) : Value.agg (vecC v).toArray = vecV v := rfl
theorem elVec : ElI Tryd.prog 26 16 64 (vecV fun _ => 0) := by unfold ElI; kernel_rfl
def upV (f : Nat → Int) (s : Nat) (x : Int) : Nat → Int := fun i => if i = s then x else f i
theorem vec_set (f : Nat → Int) {s : Nat} (hs : s < 16) (x : Int) : (vecV f).cells.setIfInBounds s (.int .u32 x) = (vecV (upV f s x)).cells := by
  rcases lt16 hs with rfl | rfl | rfl | rfl | rfl | rfl | rfl | rfl | rfl | rfl | rfl | rfl | rfl | rfl | rfl | rfl <;> rfl
theorem vecV_congr {f g : Nat → Int} (h : ∀ i, i < 16 → f i = g i) : vecV f = vecV g := by
  simp only [vecV, h 0 (by decide), h 1 (by decide), h 2 (by decide), h 3 (by decide), h 4 (by decide), h 5 (by decide), h 6 (by decide), h 7 (by decide), h 8 (by decide), h 9 (by decide), h 10 (by decide), h 11 (by decide), h 12 (by decide), h 13 (by decide), h 14 (by decide), h 15 (by decide)]
/-- Vectors folded, site by site. -/
def foldA (f : Int → Int → Int) (o : Nat → Int) (l : List (Nat → Int)) : Nat → Int := fun s => l.foldl (fun x v => f x (v s)) (o s)
def foldV (f : Int → Int → Int) : List (Nat → Int) → (Nat → Int)
  | [] => fun _ => 0
  | v :: l => foldA f v (v :: l)
theorem foldA_snoc (f : Int → Int → Int) (o : Nat → Int) (l : List (Nat → Int)) (v : Nat → Int) (s : Nat) : foldA f o (l ++ [v]) s = f (foldA f o l s) (v s) := by simp [foldA]
def FOk (f : Int → Int → Int) : Prop := ∀ a b, 0 ≤ a ∧ a ≤ 4294967295 → 0 ≤ b ∧ b ≤ 4294967295 → 0 ≤ f a b ∧ f a b ≤ 4294967295
theorem foldA_ok {f : Int → Int → Int} (hf : FOk f) {o : Nat → Int} (ho : VecOk o) : ∀ l : List (Nat → Int), (∀ v ∈ l, VecOk v) → VecOk (foldA f o l) := fun l => by
  intro h s
  unfold foldA
  have : ∀ (l : List (Nat → Int)) (x : Int), (∀ v ∈ l, VecOk v) → 0 ≤ x ∧ x ≤ 4294967295 → 0 ≤ l.foldl (fun x v => f x (v s)) x ∧ l.foldl (fun x v => f x (v s)) x ≤ 4294967295 := by
    intro l
    induction l with
    | nil => intro x _ hx; exact hx
    | cons v l ih => intro x hl hx; exact ih _ (fun u hu => hl u (List.mem_cons_of_mem _ hu)) (hf _ _ hx (hl v List.mem_cons_self s))
  exact this l _ h (ho s)
theorem foldV_ok {f : Int → Int → Int} (hf : FOk f) : ∀ {l : List (Nat → Int)}, (∀ v ∈ l, VecOk v) → VecOk (foldV f l)
  | [], _ => fun _ => by show (0 : Int) ≤ 0 ∧ (0 : Int) ≤ 4294967295; omega
  | v :: l, h => foldA_ok hf (h v List.mem_cons_self) _ h
/-- Behind i of them. -/
def foldT (f : Int → Int → Int) (l : List (Nat → Int)) (i : Nat) : Nat → Int := foldV f (l.take i)
theorem foldT_0 {f : Int → Int → Int} {l : List (Nat → Int)} {v : Nat → Int} (h : l[0]? = some v) (s : Nat) : foldT f l 1 s = f (v s) (v s) := by
  cases l with
  | nil => simp at h
  | cons x l =>
    simp only [List.getElem?_cons_zero, Option.some.injEq] at h
    subst h; simp [foldT, foldV, foldA]
theorem foldT_s {f : Int → Int → Int} {l : List (Nat → Int)} {v : Nat → Int} {i : Nat} (h : l[i + 1]? = some v) (s : Nat) : foldT f l (i + 1 + 1) s = f (foldT f l (i + 1) s) (v s) := by
  obtain ⟨hlt, rfl⟩ := List.getElem?_eq_some_iff.1 h
  cases l with
  | nil => simp at hlt
  | cons x l =>
    simp only [foldT, List.take_succ_cons, foldV]
    have hi : i < l.length := by simpa using hlt
    rw [List.take_succ_eq_append_getElem hi]
    show foldA f x ((x :: l.take i) ++ [l[i]]) s = _
    rw [foldA_snoc]; rfl
def mixV (f : Int → Int → Int) (o v : Nat → Int) (s : Nat) : Nat → Int := fun i => if i < s then f (o i) (v i) else o i
theorem mixV_0 (f : Int → Int → Int) (o v : Nat → Int) : mixV f o v 0 = o := funext fun i => by simp [mixV]
theorem mixV_s (f : Int → Int → Int) (o v : Nat → Int) (s : Nat) : upV (mixV f o v s) s (f (o s) (v s)) = mixV f o v (s + 1) := funext fun i => by
  simp only [upV, mixV]
  by_cases h1 : i = s
  · subst h1; simp
  · by_cases h2 : i < s
    · rw [if_neg h1, if_pos h2, if_pos (by omega)]
    · rw [if_neg h1, if_neg h2, if_neg (by omega)]
def o0 (i : Nat) (x o : Nat → Int) : Nat → Int := if i = 0 then x else o
theorem o0_0 {i : Nat} {x o : Nat → Int} (h : i = 0) : o0 i x o = x := if_pos h
theorem o0_s {i : Nat} {x o : Nat → Int} (h : ¬ i = 0) : o0 i x o = o := if_neg h
theorem mix_end {f : Int → Int → Int} {l : List (Nat → Int)} {x : Nat → Int} {i : Nat} (hx : l[i]? = some x) : vecV (mixV f (o0 i x (foldT f l i)) x 16) = vecV (foldT f l (i + 1)) := vecV_congr fun s hs => by
  rw [mixV, if_pos hs]
  cases i with
  | zero => rw [o0_0 rfl, foldT_0 hx]
  | succ i => rw [o0_s (by omega), foldT_s hx]
def mxI (a b : Int) : Int := if b > a then b else a
theorem mxI_ok : FOk mxI := fun a b ha hb => by unfold mxI; split <;> omega
theorem mx_two (a b : Nat → Int) (s : Nat) : foldV mxI [a, b] s = mxI (a s) (b s) := by simp [foldV, foldA, mxI]
def atMostB (a b : Nat → Int) : Bool := sameN 16 (foldV mxI [a, b]) b
theorem atMost_iff {a b : Nat → Int} : atMostB a b = true ↔ ∀ s, s < 16 → a s ≤ b s := by
  rw [atMostB, sameN_iff]
  constructor
  · intro h s hs; have := h s hs; rw [mx_two] at this; unfold mxI at this; split at this <;> omega
  · intro h s hs; have := h s hs; rw [mx_two]; unfold mxI; split <;> omega
theorem cells2 (a b : Nat → Int) : (vecV a).cells ++ (vecV b).cells = (cat vecC [a, b] ++ []).toArray := by simp [cat, vecC]
theorem info_u32' : Tryd.prog.info? 24 = some Tryd.t24 := by kernel_rfl
theorem cells_u32'' : Tryd.prog.cellsOf 24 = 1 := by kernel_rfl
theorem eq_vec (f g : Nat → Int) (w : World) : (Op.equalIn 10000 26 (.agg (vecV f).cells) (.agg (vecV g).cells)).run Tryd.prog w = .ok (sameN 16 f g) w :=
  eqIn_ints (d := 9998) (k := .u32) Tryd.underlying26 info_u32' Tryd.underlying24 Tryd.isAgg24 cells_u32'' (fun _ hi => ⟨vec_at f hi, vec_at g hi⟩) w

theorem c_mx (a b : Int) (w : World) : Calls Tryd.prog 84 #[.int .u32 a, .int .u32 b] w (Ret w [] fun v H1 => v = .int .u32 (mxI a b) ∧ H1 = []) := by
  refine fn_enter (args := [_, _]) Tryd.func84 rfl Tryd.ntmps84 rfl (Hp.nil w) ?_
  refine pn_seq ?_
  refine pn_plain [] rfl ?_
  refine TE_q rfl rfl (RD.assign rfl) rfl ?_
  refine TE_nil0 ?_
  refine pn_seq ?_
  refine pn_plain [2] rfl ?_
  refine TE_q rfl rfl (RD.move rfl) rfl ?_
  refine TE_q rfl rfl (RD.move rfl) rfl ?_
  refine TE_q rfl rfl (RD.max2 rfl rfl) rfl ?_
  refine TE_q rfl rfl (RD.assign rfl) rfl ?_
  refine TE_nil0 ?_
  refine pn_ret ?_
  exact pn_done rfl rfl ⟨rfl, rfl⟩ (List.nil_sublist _) (by simp)

set_option maxHeartbeats 1000000 in

theorem c_fold (f : Int → Int → Int) (gf : Nat) (eg : ∀ args w, (callFunc gf args).run Tryd.prog w = .ok (.enter gf args) w) (hcall : ∀ a b w, Calls Tryd.prog gf #[.int .u32 a, .int .u32 b] w (Ret w [] fun v H1 => v = .int .u32 (f a b) ∧ H1 = [])) (HX : Mem) (v : Value) (l : List (Nat → Int)) (w : World) (hb : Rdx 16 vecC HX v l) (hok : ∀ x ∈ l, VecOk x) (hlen : l.length ≤ 1000000) (hH : Hp HX w) : Calls Tryd.prog 83 #[.func (.func gf) #[] #[], v] w (Ret w [] fun r H1 => r = vecV (foldV f l) ∧ H1 = []) := by
  refine fn_enter (args := [_, _]) Tryd.func83 rfl Tryd.ntmps83 rfl hH ?_
  refine pn_seq ?_
  refine pn_plain [] rfl ?_
  refine TE_alloc rfl Tryd.zeroValue26 trivial rfl fun b4 hb4 => ?_
  refine TE_nil0 ?_
  refine pn_seq ?_
  refine pn_plain [] rfl ?_
  refine TE_alloc rfl Tryd.zeroValue26 trivial rfl fun b5 hb5 => ?_
  refine TE_nil0 ?_
  refine pn_seq ?_
  refine pn_seq ?_
  refine pn_plain [1] rfl ?_
  refine TE_q rfl rfl (RD.move rfl) rfl ?_
  refine TE_q rfl rfl (RD.lenX Tryd.runUnderlying126 rfl hb) rfl ?_
  refine TE_q rfl rfl (RD.move rfl) rfl ?_
  refine TE_nil0 ?_
  refine pn_block ?_
  refine pn_loop (σ := Nat) (fun i => [(11, .int .i64 (i : Int)), (10, .int .i64 l.length), (9, v), (5, .pointer (some ⟨b5, 0, none⟩)), (4, .pointer (some ⟨b4, 0, none⟩)), (0, .func (.func gf) #[] #[])]) (fun i => (b5, .cells (vecV (foldT f l i)).cells 26 (0, 0)) :: (b4, .cells (vecV fun _ => 0).cells 26 (0, 0)) :: HX) (fun i => i ≤ l.length) (fun i => l.length - i) 0 (Nat.zero_le _) ⟨rfl, rfl, rfl, rfl, rfl, rfl, trivial⟩ (List.Sublist.refl _) ?_
  intro i hi
  refine pn_seq ?_
  refine pn_plain [] rfl ?_
  refine TE_q rfl rfl (RD.lss rfl rfl) rfl ?_
  refine TE_nil0 ?_
  refine pn_seq ?_
  first | refine pn_condD rfl (fun hc0 => ?_) (fun hc0 => ?_) | refine pn_condN rfl (fun hc0 => ?_) (fun hc0 => ?_) | refine pn_cond rfl (fun hc0 => ?_) (fun hc0 => ?_)
  · refine pn_skip ?_
    refine pn_seq ?_
    refine pn_block ?_
    refine pn_seq ?_
    have hlt : i < l.length := (by omega); have hq9 : ∃ x, l[i]? = some x := ⟨_, List.getElem?_eq_getElem hlt⟩; obtain ⟨x, hx⟩ := hq9; have hq9 := hb.at hx; obtain ⟨b, off, cap, hv, hcap, hcell⟩ := hq9; have hxo := hok x (List.mem_of_getElem? hx)
    refine pn_plain [] rfl ?_
    refine TE_q rfl rfl (RD.move rfl) rfl ?_
    refine TE_q rfl rfl (RD.indexX (i := i) Tryd.runUnderlying126 Tryd.sizeOf26 (congrArg some hv) rfl rfl hlt) rfl ?_
    refine TE_l rfl rfl trivial rfl (RD.as (v := vecV x) (RD.loadX (vs := vecC x) Tryd.isAgg26 Tryd.sizeOf26 rfl rfl (fun w hw j u hu => hcell w (hw.sp (fun a => by simp -failIfUnchanged <;> omega)) j u hu)) (vecC_agg _)) rfl ?_
    refine TE_alloc rfl Tryd.zeroValue26 trivial rfl fun b7 hb7 => ?_
    refine TE_q rfl rfl (RD.assign rfl) rfl ?_
    refine TE_putW (i := 0) rfl Tryd.sizeOf26 trivial rfl rfl rfl rfl rfl rfl (.inl (by assumption)) ?_
    refine TE_nil0 ?_
    refine pn_seq ?_
    refine pn_seq ?_
    refine pn_plain [] rfl ?_
    refine TE_q rfl rfl (RD.move rfl) rfl ?_
    refine TE_q rfl rfl (RD.eql rfl rfl) rfl ?_
    refine TE_nil0 ?_
    refine pn_cut (σ := Unit) (fun _ => [(7, .pointer (some ⟨b7, 0, none⟩)), (11, .int .i64 (i : Int)), (10, .int .i64 l.length), (9, v), (5, .pointer (some ⟨b5, 0, none⟩)), (4, .pointer (some ⟨b4, 0, none⟩)), (0, .func (.func gf) #[] #[])]) (fun _ => (b5, .cells (vecV (o0 i x (foldT f l i))).cells 26 (0, 0)) :: (b7, .cells (vecV x).cells 26 (0, 0)) :: (b4, .cells (vecV fun _ => 0).cells 26 (0, 0)) :: HX) (fun _ => True) ?_ ?_
    · first | refine pn_condD rfl (fun hc1 => ?_) (fun hc1 => ?_) | refine pn_condN rfl (fun hc1 => ?_) (fun hc1 => ?_) | refine pn_cond rfl (fun hc1 => ?_) (fun hc1 => ?_)
      · refine pn_plain [] rfl ?_
        refine TE_l rfl rfl trivial rfl (RD.loadA (i := 0) Tryd.isAgg26 Tryd.sizeOf26 rfl rfl (Nat.le_of_ble_eq_true rfl) (vec_all _)) rfl ?_
        refine TE_putW (i := 1) rfl Tryd.sizeOf26 trivial rfl rfl rfl rfl rfl rfl (.inl (by assumption)) ?_
        refine TE_nil0 ?_
        (first | (have hi0 : i = 0 := (by omega); exact pn_give () trivial ⟨rfl, rfl, rfl, rfl, rfl, rfl, rfl, trivial⟩ (fun w h => by rw [o0_0 hi0]; exact h.sp (fun a => by simp -failIfUnchanged <;> omega))) | (have hi0 : ¬ i = 0 := (by omega); exact pn_give () trivial ⟨rfl, rfl, rfl, rfl, rfl, rfl, rfl, trivial⟩ (fun w h => by rw [o0_s hi0]; exact h.sp (fun a => by simp -failIfUnchanged <;> omega))))
      · refine pn_skip ?_
        (first | (have hi0 : i = 0 := (by omega); exact pn_give () trivial ⟨rfl, rfl, rfl, rfl, rfl, rfl, rfl, trivial⟩ (fun w h => by rw [o0_0 hi0]; exact h.sp (fun a => by simp -failIfUnchanged <;> omega))) | (have hi0 : ¬ i = 0 := (by omega); exact pn_give () trivial ⟨rfl, rfl, rfl, rfl, rfl, rfl, rfl, trivial⟩ (fun w h => by rw [o0_s hi0]; exact h.sp (fun a => by simp -failIfUnchanged <;> omega))))
    rintro - -
    refine pn_seq ?_
    refine pn_plain [] rfl ?_
    refine TE_q rfl rfl (RD.move rfl) rfl ?_
    refine TE_nil0 ?_
    refine pn_block ?_
    refine pn_loopS (σ := Nat) (fun s => [(19, .int .i64 (s : Int)), (7, .pointer (some ⟨b7, 0, none⟩)), (11, .int .i64 (i : Int)), (10, .int .i64 l.length), (9, v), (5, .pointer (some ⟨b5, 0, none⟩)), (4, .pointer (some ⟨b4, 0, none⟩)), (0, .func (.func gf) #[] #[])]) (fun s => (b5, .cells (vecV (mixV f (o0 i x (foldT f l i)) x s)).cells 26 (0, 0)) :: (b7, .cells (vecV x).cells 26 (0, 0)) :: (b4, .cells (vecV fun _ => 0).cells 26 (0, 0)) :: HX) (fun s => s ≤ 16) (fun s => 16 - s) 0 (by decide) ⟨rfl, rfl, rfl, rfl, rfl, rfl, rfl, rfl, trivial⟩ (by rw [mixV_0]; exact (fun a => by simp -failIfUnchanged <;> omega)) ?_
    intro s hs
    refine pn_seq ?_
    refine pn_plain [] rfl ?_
    refine TE_q rfl rfl (RD.lss rfl rfl) rfl ?_
    refine TE_nil0 ?_
    refine pn_seq ?_
    first | refine pn_condD rfl (fun hc2 => ?_) (fun hc2 => ?_) | refine pn_condN rfl (fun hc2 => ?_) (fun hc2 => ?_) | refine pn_cond rfl (fun hc2 => ?_) (fun hc2 => ?_)
    · refine pn_skip ?_
      refine pn_seq ?_
      refine pn_block ?_
      refine pn_seq ?_
      refine pn_plain [] rfl ?_
      refine TE_q rfl rfl (RD.move rfl) rfl ?_
      refine TE_q rfl rfl (RD.assign rfl) rfl ?_
      refine TE_nil0 ?_
      refine pn_drawT [7] [0] [1, 2] [_, _, _] HX rfl rfl (by kernel_rfl) (by kernel_rfl) rfl rfl ?_
      refine TE_q rfl rfl (RD.move rfl) rfl ?_
      refine TE_q rfl rfl (RD.move rfl) rfl ?_
      refine TE_q rfl rfl (RD.move rfl) rfl ?_
      refine TE_q rfl rfl (RD.indexAddrA Tryd.runUnderlying26 Tryd.sizeOf24 rfl rfl (by omega) (by omega)) rfl ?_
      refine TE_l rfl rfl trivial rfl (RD.load (i := 0) Tryd.isAgg24 rfl rfl (vec_get (by omega) (by omega))) rfl ?_
      refine TE_q rfl rfl (RD.move rfl) rfl ?_
      refine TE_q rfl rfl (RD.indexAddrA Tryd.runUnderlying26 Tryd.sizeOf24 rfl rfl (by omega) (by omega)) rfl ?_
      refine TE_q rfl rfl (RD.load (i := 0) Tryd.isAgg24 rfl rfl (vec_get (by omega) (by omega))) rfl ?_
      refine TE_call (fid := gf) rfl rfl trivial eg rfl rfl rfl (fun w hs' => hcall _ _ w) ?_
      rintro v30 H8 ⟨rfl, rfl⟩ -
      refine TE_q rfl rfl (RD.indexAddrA Tryd.runUnderlying26 Tryd.sizeOf24 rfl rfl (by omega) (by omega)) rfl ?_
      refine TE_store (i := 0) rfl Tryd.sizeOf24 trivial rfl rfl rfl rfl rfl (by show Nat.blt (0 + (s : Int).toNat * 1) 16 = true; simp; omega) (.inl hb5) ?_
      refine TE_nil ?_
      rw [show (vecV (mixV f (o0 i x (foldT f l i)) x s)).cells.setIfInBounds (0 + (s : Int).toNat * 1) (.int .u32 (f (mixV f (o0 i x (foldT f l i)) x s (s : Int).toNat) (x (s : Int).toNat))) = (vecV (mixV f (o0 i x (foldT f l i)) x (s + 1))).cells from by rw [Nat.zero_add, Nat.mul_one, Int.toNat_natCast, vec_set _ (by omega), ← mixV_s]; simp [mixV]]
      refine pn_plain [] rfl ?_
      refine TE_q rfl rfl (RD.addI rfl rfl (by omega) (by omega)) rfl ?_
      refine TE_q rfl rfl (RD.move rfl) rfl ?_
      refine TE_nil0 ?_
      (exact pn_againS (s + 1) (by omega) (by show 16 - (s + 1) < 16 - s; omega) ⟨rfl, rfl, rfl, rfl, rfl, rfl, rfl, rfl, trivial⟩ (fun a => by simp -failIfUnchanged <;> omega))
    · refine pn_exit ?_
      refine pn_plain [] rfl ?_
      refine TE_q rfl rfl (RD.addI rfl rfl (by omega) (by omega)) rfl ?_
      refine TE_q rfl rfl (RD.move rfl) rfl ?_
      refine TE_nil0 ?_
      (obtain rfl : s = 16 := (by omega); rw [mix_end hx]; exact pn_againS (i + 1) (by omega) (by show l.length - (i + 1) < l.length - i; omega) ⟨rfl, rfl, rfl, rfl, rfl, rfl, trivial⟩ (fun a => by simp -failIfUnchanged <;> omega))
  · refine pn_exit ?_
    refine pn_seq ?_
    refine pn_plain [] rfl ?_
    refine TE_l rfl rfl trivial rfl (RD.loadA (i := 0) Tryd.isAgg26 Tryd.sizeOf26 rfl rfl (Nat.le_of_ble_eq_true rfl) (vec_all _)) rfl ?_
    refine TE_putW (i := 1) rfl Tryd.sizeOf26 trivial rfl rfl rfl rfl rfl rfl (.inl (by assumption)) ?_
    refine TE_nil0 ?_
    refine pn_ret ?_
    obtain rfl : i = l.length := (by omega); exact pn_doneCell (i := 1) (cs := (vecV (foldT f l l.length)).cells) rfl rfl rfl Tryd.isAgg26 Tryd.sizeOf26 (Nat.le_of_ble_eq_true rfl) (vec_all _) ⟨by rw [foldT, List.take_length], rfl⟩ (List.nil_sublist _) (by simp)

theorem c_merge (HX : Mem) (v : Value) (l : List (Nat → Int)) (w : World) (hb : Rdx 16 vecC HX v l) (hok : ∀ x ∈ l, VecOk x) (hlen : l.length ≤ 1000000) (hH : Hp HX w) : Calls Tryd.prog 58 #[v] w (Ret w [] fun r H1 => r = vecV (foldV mxI l) ∧ H1 = []) := by
  refine fn_enter (args := [_]) Tryd.func58 rfl Tryd.ntmps58 rfl hH ?_
  refine pn_seq ?_
  refine pn_plain [] rfl ?_
  refine TE_alloc rfl Tryd.zeroValue26 trivial rfl fun b2 hb2 => ?_
  refine TE_nil0 ?_
  refine pn_seq ?_
  refine pn_plain [] rfl ?_
  refine TE_q rfl rfl (RD.move rfl) rfl ?_
  refine TE_call rfl rfl trivial Tryd.call83 rfl rfl rfl (fun w hs' => c_fold mxI 84 Tryd.call84 (fun a b w => c_mx a b w) HX v l w hb hok hlen (hs'.hp.sp (fun a => by simp -failIfUnchanged <;> omega))) ?_
  rintro v4 H1 ⟨rfl, rfl⟩ -
  refine TE_putW (i := 0) rfl Tryd.sizeOf26 trivial rfl rfl rfl rfl rfl rfl (.inl (by assumption)) ?_
  refine TE_nil0 ?_
  refine pn_ret ?_
  exact pn_doneCell (i := 0) (cs := (vecV (foldV mxI l)).cells) rfl rfl rfl Tryd.isAgg26 Tryd.sizeOf26 (Nat.le_of_ble_eq_true rfl) (vec_all _) ⟨rfl, rfl⟩ (List.nil_sublist _) (by simp)

theorem c_atMost (a b : Nat → Int) (w : World) (ha : VecOk a) (hb : VecOk b) : Calls Tryd.prog 27 #[vecV a, vecV b] w (Ret w [] fun v H1 => v = .bool (atMostB a b) ∧ H1 = []) := by
  refine fn_enter (args := [_, _]) Tryd.func27 rfl Tryd.ntmps27 rfl (Hp.nil w) ?_
  refine pn_seq ?_
  refine pn_plain [] rfl ?_
  refine TE_box rfl rfl trivial rfl fun b2 hb2 => ?_
  refine TE_box rfl rfl trivial rfl fun b3 hb3 => ?_
  refine TE_q rfl rfl (RD.assign rfl) rfl ?_
  refine TE_nil0 ?_
  refine pn_seq ?_
  refine pn_draw [0, 1, 4] [] [0, 1] rfl (by kernel_rfl) (by kernel_rfl) rfl rfl ?_
  refine TE_q rfl rfl (RD.loadA (i := 1) Tryd.isAgg26 Tryd.sizeOf26 rfl rfl (Nat.le_of_ble_eq_true rfl) (vec_all _)) rfl ?_
  refine TE_q rfl rfl (RD.loadA (i := 0) Tryd.isAgg26 Tryd.sizeOf26 rfl rfl (Nat.le_of_ble_eq_true rfl) (vec_all _)) rfl ?_
  refine TE_buildSlice (cells := ((vecV a).cells ++ (vecV b).cells)) rfl Tryd.runUnderlying126 Tryd.sizeOf26 Tryd.zeroValue26 rfl rfl rfl (by kernel_rfl) trivial rfl fun b7 hb7 => ?_
  refine TE_call rfl rfl trivial Tryd.call58 rfl rfl rfl (fun w hs' => c_merge [(b7, .cells ((vecV a).cells ++ (vecV b).cells) 26 (0, 0))] _ [a, b] w (Rdx.blk (i := 0) (tl := []) vecC_len (by rw [cells2]; rfl) rfl (Nat.le_refl _)) (by simp [ha, hb]) (by simp) hs'.hp.left) ?_
  rintro v8 H3 ⟨rfl, rfl⟩ -
  refine TE_q rfl rfl (RD.loadA (i := 0) Tryd.isAgg26 Tryd.sizeOf26 rfl rfl (Nat.le_of_ble_eq_true rfl) (vec_all _)) rfl ?_
  refine TE_q rfl rfl (RD.eql_agg Tryd.eqGuardType26 (eq_vec (foldV mxI [a, b]) b) rfl rfl) rfl ?_
  refine TE_q rfl rfl (RD.assign rfl) rfl ?_
  refine TE_nil ?_
  refine pn_ret ?_
  exact pn_done rfl rfl ⟨rfl, rfl⟩ (List.nil_sublist _) (by simp)

theorem ctxC_in {r : Rec} {j : Nat} {u : Value} (h : (vecC r.ctx)[j]? = some u) : (recC r)[2 + j]? = some u := by
  have hj : j < 16 := (List.getElem?_eq_some_iff.1 h).1
  rw [← h]
  rcases lt16 hj with rfl | rfl | rfl | rfl | rfl | rfl | rfl | rfl | rfl | rfl | rfl | rfl | rfl | rfl | rfl | rfl <;> rfl
theorem sumV_le {a b : Nat → Int} : ∀ n : Nat, (∀ s, s < n → a s ≤ b s) → sumV a n ≤ sumV b n
  | 0, _ => by simp [sumV]
  | n + 1, h => by have := sumV_le n (fun s hs => h s (by omega)); have := h n (by omega); simp only [sumV]; omega
theorem sumV_eq {a b : Nat → Int} : ∀ n : Nat, (∀ s, s < n → a s ≤ b s) → sumV b n ≤ sumV a n → ∀ s, s < n → a s = b s
  | 0, _, _, s, hs => by omega
  | n + 1, h, hle, s, hs => by
    have h1 := sumV_le n (fun s hs => h s (by omega))
    have h2 := h n (by omega)
    simp only [sumV] at hle
    rcases Nat.lt_succ_iff_lt_or_eq.1 hs with hs | rfl
    · exact sumV_eq n (fun s hs => h s (by omega)) (by omega) s hs
    · omega
/-- P12.3: none stands behind one whose Ctx has it, and all that it has. -/
theorem not_behind {x y : Rec} (hok : recOkB x = true) (hs : ¬ recCmp x y < 0) (h1 : aheadB x y = true) : atMostB x.ctx y.ctx = false := by
  cases h2 : atMostB x.ctx y.ctx with
  | false => rfl
  | true =>
    exfalso
    have hle := atMost_iff.1 h2
    have hfar : farV y.ctx ≤ farV x.ctx := by rw [recCmp_lt] at hs; omega
    have heq := sumV_eq 16 hle hfar
    simp only [aheadB, vHas, Bool.and_eq_true, decide_eq_true_eq] at h1
    have hd := dotOk_iff.1 h1.1
    simp only [recOkB, Bool.and_eq_true, decide_eq_true_eq] at hok
    have := heq x.s.toNat (by omega)
    omega
theorem ordOk_rec {l : List Rec} (h : ordOk l = true) {x : Rec} (hx : x ∈ l) : recOkB x = true := by
  simp only [ordOk, Bool.and_eq_true, List.all_eq_true] at h; exact h.1 x hx

end Go.Proofs.YthagkkmbbncclaaDoor
