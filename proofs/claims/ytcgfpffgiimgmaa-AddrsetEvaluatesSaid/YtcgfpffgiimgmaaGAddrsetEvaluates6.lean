/- The law AddrsetEvaluates answers true for every input and leaves its arguments as they were. No condition. (Part 6 of 6: the kit's printed words and walks, hand-made contracts and plain laws, joined in build order, without what the theorem does not reach.) -/
import Derived.Test.YtcgfpffgiimgmaaRows
import Derived.WalkKit
import Derived.ProofKit
import Derived.OpenShut
import Derived.ShutString
import Derived.ChangeOld
import Derived.Below
import Derived.SizedLaws
import Derived.Carry
import Derived.Test.YtcgfpffgiimgmaaGAddrsetEvaluates5
section
set_option linter.unusedVariables false
set_option linter.unusedSimpArgs false
namespace Go.Proofs.Ytcgfpffgiimgmaa.Q
open Go.RowKit Go.Proofs.YtcgfpffgiimgmaaW.PrintWords Go.Proofs.YtcgfpffgiimgmaaW.PrintLast Go.Proofs.YtcgfpffgiimgmaaW.PrintMore Go.Proofs.Ytcgfpffgiimgmaa.Canon
theorem wid {x : Int} (h0 : -9223372036854775808 ≤ x) (h1 : x ≤ 9223372036854775807) : wrap64 x = x := by unfold wrap64; omega
theorem wsucc (i : Nat) (h : i < 9223372036854775807) : wrap64 ((i : Int) + 1) = ((i + 1 : Nat) : Int) := by rw [wid (by omega) (by omega)]; simp
theorem wpred (i : Nat) (h0 : 0 < i) (h : i < 9223372036854775807) : wrap64 ((i : Int) - 1) = ((i - 1 : Nat) : Int) := by rw [wid (by omega) (by omega)]; omega
theorem dropc {α : Type} (l : List α) (i : Nat) (h : i < l.length) : l.drop i = l[i] :: l.drop (i + 1) := List.drop_eq_getElem_cons h
def rsp (r : Rg) : Sp := (av r.f0, av r.f1)
def ASM (l : List Rg) (n : Int) : Prop := ∃ x ∈ l, RW x ∧ av x.f0 ≤ n ∧ n ≤ av x.f1
theorem asm_nil (n : Int) : ASM [] n ↔ False := by simp [ASM]
theorem asm_cons (x : Rg) (t : List Rg) (n : Int) : ASM (x :: t) n ↔ (RW x ∧ av x.f0 ≤ n ∧ n ≤ av x.f1) ∨ ASM t n := by
  unfold ASM
  simp only [List.mem_cons]
  constructor
  · rintro ⟨y, rfl | hy, h⟩
    · exact .inl h
    · exact .inr ⟨y, hy, h⟩
  · rintro (h | ⟨y, hy, h⟩)
    · exact ⟨x, .inl rfl, h⟩
    · exact ⟨y, .inr hy, h⟩
theorem asm_append (a b : List Rg) (n : Int) : ASM (a ++ b) n ↔ ASM a n ∨ ASM b n := by
  unfold ASM
  simp only [List.mem_append]
  constructor
  · rintro ⟨y, hy | hy, h⟩
    · exact .inl ⟨y, hy, h⟩
    · exact .inr ⟨y, hy, h⟩
  · rintro (⟨y, hy, h⟩ | ⟨y, hy, h⟩)
    · exact ⟨y, .inl hy, h⟩
    · exact ⟨y, .inr hy, h⟩
theorem asm_perm {a b : List Rg} (h : a.Perm b) (n : Int) : ASM a n ↔ ASM b n := by
  unfold ASM
  constructor
  · rintro ⟨x, hx, g⟩; exact ⟨x, h.mem_iff.1 hx, g⟩
  · rintro ⟨x, hx, g⟩; exact ⟨x, h.mem_iff.2 hx, g⟩
theorem asm_filter (l : List Rg) (hl : ∀ x ∈ l, RB x) (n : Int) : ASM (l.filter someB) n ↔ ASM l n := by
  unfold ASM
  constructor
  · rintro ⟨x, hx, g⟩; exact ⟨x, (List.mem_filter.1 hx).1, g⟩
  · rintro ⟨x, hx, g⟩; exact ⟨x, List.mem_filter.2 ⟨hx, (some_iff (hl x hx)).2 g.1⟩, g⟩
theorem asm_mem {l : List Rg} (hl : ∀ x ∈ l, RW x) (n : Int) : ASM l n ↔ Mem (l.map rsp) n := by
  unfold ASM Mem
  constructor
  · rintro ⟨x, hx, _, h⟩; exact ⟨rsp x, List.mem_map.2 ⟨x, hx, rfl⟩, h⟩
  · rintro ⟨y, hy, h⟩
    obtain ⟨x, hx, rfl⟩ := List.mem_map.1 hy
    exact ⟨x, hx, hl x hx, h⟩
def okN (n : Int) : Prop := (0 ≤ n ∧ n ≤ 4294967295) ∨ (680564733841876926926749214863536422912 ≤ n ∧ n < 1020847100762815390390123822295304634368)
theorem asm_ok {l : List Rg} {n : Int} (h : ASM l n) : okN n := by
  obtain ⟨x, _, hx, h1, h2⟩ := h
  obtain ⟨a, b, c | c⟩ := hx.num
  · exact .inl (by omega)
  · exact .inr (by omega)
def ACan (P : Int → Prop) (r : List Rg) : Prop := CanFrom 0 (r.map rsp) ∧ (∀ x ∈ r, RW x) ∧ ∀ n, ASM r n ↔ P n
theorem rsp_inj {x y : Rg} (hx : RW x) (hy : RW y) (h : rsp x = rsp y) : x = y := by
  unfold rsp at h
  injection h with h1 h2
  have e1 := av_inj hx.1.1 hy.1.1 h1
  have e2 := av_inj hx.2.1.1 hy.2.1.1 h2
  cases x; cases y
  simp only at e1 e2
  rw [e1, e2]
theorem map_rsp_inj : ∀ {a b : List Rg}, (∀ x ∈ a, RW x) → (∀ x ∈ b, RW x) → a.map rsp = b.map rsp → a = b
  | [], [], _, _, _ => rfl
  | [], y :: t, _, _, h => by simp at h
  | x :: s, [], _, _, h => by simp at h
  | x :: s, y :: t, ha, hb, h => by
    simp only [List.map_cons, List.cons.injEq] at h
    rw [rsp_inj (ha x (List.mem_cons_self ..)) (hb y (List.mem_cons_self ..)) h.1, map_rsp_inj (fun z hz => ha z (List.mem_cons_of_mem _ hz)) (fun z hz => hb z (List.mem_cons_of_mem _ hz)) h.2]
theorem ACan.uniq {P : Int → Prop} {a b : List Rg} (ha : ACan P a) (hb : ACan P b) : a = b :=
  map_rsp_inj ha.2.1 hb.2.1 (Canon.uniq _ _ 0 ha.1 hb.1 (fun n => by rw [← asm_mem ha.2.1, ← asm_mem hb.2.1, ha.2.2, hb.2.2]))
theorem ACan.congr {P Q : Int → Prop} {r : List Rg} (h : ACan P r) (e : ∀ n, P n ↔ Q n) : ACan Q r := ⟨h.1, h.2.1, fun n => (h.2.2 n).trans (e n)⟩
theorem ACan.self {r : List Rg} (h1 : CanFrom 0 (r.map rsp)) (h2 : ∀ x ∈ r, RW x) : ACan (ASM r) r := ⟨h1, h2, fun _ => Iff.rfl⟩
theorem ACan.nil {P : Int → Prop} (h : ∀ n, ¬ P n) : ACan P [] := ⟨trivial, by simp, fun n => by rw [asm_nil]; exact ⟨False.elim, h n⟩⟩
theorem greaterA_spec {a b : Ad} (ha : AW a) (hb : AW b) : (greaterA a b = a ∨ greaterA a b = b) ∧ av a ≤ av (greaterA a b) ∧ av b ≤ av (greaterA a b) := by
  unfold greaterA
  have := cmp_ge' ha hb
  split
  · rename_i h
    exact ⟨.inl rfl, by omega, by omega⟩
  · rename_i h
    exact ⟨.inr rfl, by omega, by omega⟩
def mrgR (out : List Rg) (x : Rg) : List Rg :=
  if h : 0 < out.length then (if nearP (out[out.length - 1]'(by omega)) x then out.set (out.length - 1) ⟨(out[out.length - 1]'(by omega)).f0, greaterA (out[out.length - 1]'(by omega)).f1 x.f1⟩ else out ++ [x]) else out ++ [x]
theorem mrgR_nil (x : Rg) : mrgR [] x = [x] := by simp [mrgR]
theorem mrgR_snoc (i : List Rg) (y x : Rg) : mrgR (i ++ [y]) x = if nearP y x then i ++ [(⟨y.f0, greaterA y.f1 x.f1⟩ : Rg)] else i ++ [y] ++ [x] := by
  have hl : (i ++ [y]).length - 1 = i.length := by simp
  have hg : (i ++ [y])[(i ++ [y]).length - 1]'(by simp) = y := by simp
  unfold mrgR
  rw [dif_pos (by simp)]
  rw [hg, hl]
  split
  · simp
  · rfl
theorem mrgR_len (out : List Rg) (x : Rg) : out.length ≤ (mrgR out x).length ∧ (mrgR out x).length ≤ out.length + 1 := by
  unfold mrgR
  split
  · split <;> simp
  · simp
theorem foldR_len : ∀ (L out : List Rg), (L.foldl mrgR out).length ≤ out.length + L.length
  | [], out => by simp
  | x :: t, out => by
    have h1 := foldR_len t (mrgR out x)
    have h2 := (mrgR_len out x).2
    simp only [List.foldl_cons, List.length_cons]
    omega
theorem joinRW {y x : Rg} (hy : RW y) (hx : RW x) (hn : nearP y x) : RW ⟨y.f0, greaterA y.f1 x.f1⟩ := by
  obtain ⟨g1, g2, g3⟩ := greaterA_spec hy.2.1.1 hx.2.1.1
  refine ⟨hy.1, ?_, ?_, Int.le_trans hy.2.2.2 g2⟩
  · rcases g1 with e | e
    · show AF (greaterA y.f1 x.f1); rw [e]; exact hy.2.1
    · show AF (greaterA y.f1 x.f1); rw [e]; exact hx.2.1
  · show y.f0.f0 = (greaterA y.f1 x.f1).f0
    rcases g1 with e | e
    · rw [e]; exact hy.2.2.1
    · rw [e]; exact hn.1.trans hx.2.2.1
theorem mrgR_RW {out : List Rg} {x : Rg} (ho : ∀ z ∈ out, RW z) (hx : RW x) : ∀ z ∈ mrgR out x, RW z := by
  rcases List.eq_nil_or_concat out with rfl | ⟨j, y, rfl⟩
  · rw [mrgR_nil]; intro z h; rw [List.mem_singleton.1 h]; exact hx
  · have hy := ho y (by simp)
    rw [List.concat_eq_append, mrgR_snoc]
    split
    · rename_i hn
      intro z h
      rcases List.mem_append.1 h with h | h
      · exact ho z (by simp [h])
      · rw [List.mem_singleton.1 h]; exact joinRW hy hx hn
    · intro z h
      rcases List.mem_append.1 h with h | h
      · exact ho z (by rw [List.concat_eq_append]; exact h)
      · rw [List.mem_singleton.1 h]; exact hx
theorem ev_aNormal0 (L : List Rg) (hl : L.length < 2932031007402) (hL : ∀ x ∈ L, RW x) : ∀ (d i : Nat) (out : List Rg), L.length - i = d → i ≤ L.length → out.length ≤ i → (∀ x ∈ out, RW x) → Ev (fun k => addrset_Normal.l0 k out L (L.length : Int) (i : Int)) ((L.drop i).foldl mrgR out) := by
  intro d
  induction d with
  | zero =>
    intro i out hd hi ho _
    have : i = L.length := by omega
    subst this
    refine Ev.step (f := fun _ => some out) (fun k => ?_) ?_
    · simp only [addrset_Normal.l0]; rw [if_neg (by omega)]
    · simpa using Ev.now out
  | succ d ih =>
    intro i out hd hi ho hw
    have hlt : i < L.length := by omega
    have hx := hL L[i] (List.getElem_mem hlt)
    rw [dropc L i hlt, List.foldl_cons]
    have h2 := ih (i + 1) (mrgR out L[i]) (by omega) (by omega) (by have := (mrgR_len out L[i]).2; omega) (mrgR_RW hw hx)
    refine Ev.step (fun k => ?_) h2
    simp only [addrset_Normal.l0]
    rw [if_pos (by omega), if_pos (by omega), if_pos (by omega), rd_getR L i hlt]
    by_cases h0 : 0 < out.length
    · have hy := hw (out[out.length - 1]'(by omega)) (List.getElem_mem _)
      rw [show wrap64 ((out.length : Int) - 1) = ((out.length - 1 : Nat) : Int) from wpred _ h0 (by omega), if_pos (by omega), if_pos (by omega), if_pos (by omega), rd_getR out (out.length - 1) (by omega), near_eq _ _ hy hx]
      simp only [Option.bind_some]
      unfold mrgR
      rw [dif_pos h0]
      by_cases hn : nearP (out[out.length - 1]'(by omega)) L[i]
      · rw [if_pos (decide_eq_true hn), if_pos hn, greater_eq, wsucc i (by omega)]
        rfl
      · rw [if_neg (by simpa using hn), if_neg hn, if_pos (by omega), wsucc i (by omega)]
    · have e : out = [] := List.eq_nil_of_length_eq_zero (by omega)
      subst e
      rw [if_neg (by simp [wrap64]), if_pos (by simp), wsucc i (by omega), mrgR_nil]
      rfl
theorem mrgR_spec : ∀ (L i : List Rg) (y : Rg), (∀ x ∈ L, RW x) → L.Pairwise (fun a b => av a.f0 ≤ av b.f0) → (∀ x ∈ L, av y.f0 ≤ av x.f0) → CanFrom 0 ((i ++ [y]).map rsp) → (∀ x ∈ i ++ [y], RW x) → ACan (fun n => ASM (i ++ [y]) n ∨ ASM L n) (L.foldl mrgR (i ++ [y]))
  | [], i, y, _, _, _, hc, hm => by
    refine ⟨hc, hm, fun n => ?_⟩
    simp [asm_nil]
  | x :: t, i, y, hL, hp, hy, hc, hm => by
    have hx := hL x (List.mem_cons_self ..)
    have hwy := hm y (by simp)
    have ht : ∀ z ∈ t, RW z := fun z hz => hL z (List.mem_cons_of_mem _ hz)
    obtain ⟨p1, p2⟩ := List.pairwise_cons.1 hp
    rw [List.foldl_cons, mrgR_snoc]
    have hxy := hy x (List.mem_cons_self ..)
    have hni := nearP_iff hwy hx hxy
    have hc0 := hc
    rw [List.map_append, can_append] at hc
    obtain ⟨c1, c2, _, c4⟩ := hc
    simp only [List.map_cons, List.map_nil, List.mem_singleton, forall_eq] at c2 c4
    have w1 : av y.f0 ≤ av y.f1 := hwy.2.2.2
    have x2 : av x.f0 ≤ av x.f1 := hx.2.2.2
    by_cases hj : nearP y x
    · rw [if_pos hj]
      have hj2 := hni.1 hj
      obtain ⟨g1, g2, g3⟩ := greaterA_spec hwy.2.1.1 hx.2.1.1
      have hjw := joinRW hwy hx hj
      have g4 : av (greaterA y.f1 x.f1) = av y.f1 ∨ av (greaterA y.f1 x.f1) = av x.f1 := by
        rcases g1 with e | e
        · exact .inl (by rw [e])
        · exact .inr (by rw [e])
      generalize greaterA y.f1 x.f1 = m at g2 g3 g4 hjw
      have h := mrgR_spec t i ⟨y.f0, m⟩ ht p2 (fun z hz => Int.le_trans hxy (p1 z hz)) (by
        rw [List.map_append, can_append]
        refine ⟨c1, ?_, ⟨av y.f0, by simp [rsp, CanFrom]; omega⟩, ?_⟩
        · intro z hz u hu
          simp only [List.map_cons, List.map_nil, List.mem_singleton] at hu
          subst hu
          exact c2 z hz
        · intro u hu
          simp only [List.map_cons, List.map_nil, List.mem_singleton] at hu
          subst hu
          exact c4) (by
        intro z hz
        rcases List.mem_append.1 hz with hz | hz
        · exact hm z (by simp [hz])
        · rw [List.mem_singleton.1 hz]; exact hjw)
      refine h.congr (fun n => ?_)
      rw [asm_append, asm_append, asm_cons, asm_cons, asm_cons, asm_nil]
      simp only [or_false]
      constructor
      · rintro ((h | ⟨_, h, h3⟩) | h)
        · exact .inl (.inl h)
        · by_cases hn : n ≤ av y.f1
          · exact .inl (.inr ⟨hwy, h, hn⟩)
          · have h3 : n ≤ av m := h3
            exact .inr (.inl ⟨hx, by omega, by omega⟩)
        · exact .inr (.inr h)
      · rintro ((h | ⟨_, h, h3⟩) | ⟨_, h, h3⟩ | h)
        · exact .inl (.inl h)
        · exact .inl (.inr ⟨hjw, h, show n ≤ av m from by omega⟩)
        · exact .inl (.inr ⟨hjw, show av y.f0 ≤ n from by omega, show n ≤ av m from by omega⟩)
        · exact .inr h
    · rw [if_neg hj]
      have hj2 : ¬ av x.f0 ≤ av y.f1 + 1 := fun e => hj (hni.2 e)
      have h := mrgR_spec t (i ++ [y]) x ht p2 p1 (by
        rw [List.map_append, can_append]
        refine ⟨hc0, ?_, ⟨av x.f0, by simp [rsp, CanFrom]; omega⟩, ?_⟩
        · intro z hz u hu
          simp only [List.map_cons, List.map_nil, List.mem_singleton] at hu
          subst hu
          rw [List.map_append] at hz
          rcases List.mem_append.1 hz with hz | hz
          · have := c2 z hz
            simp only [rsp] at this ⊢
            omega
          · simp only [List.map_cons, List.map_nil, List.mem_singleton] at hz
            subst hz
            simp only [rsp]
            omega
        · intro u hu
          simp only [List.map_cons, List.map_nil, List.mem_singleton] at hu
          subst hu
          have := hx.num.1
          simpa [rsp] using this) (by
        intro z hz
        rcases List.mem_append.1 hz with hz | hz
        · exact hm z hz
        · rw [List.mem_singleton.1 hz]; exact hx)
      refine h.congr (fun n => ?_)
      rw [asm_append (i ++ [y]) [x], asm_cons x t, asm_cons x [], asm_nil]
      simp only [or_false, or_assoc]
theorem mergeR_spec (L : List Rg) (hL : ∀ x ∈ L, RW x) (hp : L.Pairwise (fun a b => av a.f0 ≤ av b.f0)) : ACan (ASM L) (L.foldl mrgR []) := by
  cases L with
  | nil => exact ⟨trivial, by simp, fun n => Iff.rfl⟩
  | cons x t =>
    obtain ⟨p1, p2⟩ := List.pairwise_cons.1 hp
    have hx := hL x (List.mem_cons_self ..)
    have h := mrgR_spec t [] x (fun z hz => hL z (List.mem_cons_of_mem _ hz)) p2 p1 ⟨hx.num.1, hx.2.2.2, trivial⟩ (by simp; exact hx)
    rw [List.foldl_cons, mrgR_nil]
    refine h.congr (fun n => ?_)
    rw [List.nil_append, asm_cons, asm_cons, asm_nil, or_false]
theorem aNormal_spec (l : List Rg) (hl : l.length < 2932031007402) (hb : ∀ x ∈ l, RB x) : ∃ r, Ev (fun k => addrset_Normal.f k l) r ∧ ACan (ASM l) r ∧ r.length ≤ l.length := by
  obtain ⟨s1, s2, s3⟩ := sortRanges_spec (l.filter someB)
  have hw : ∀ x ∈ sortRanges (l.filter someB), RW x := fun x hx => by
    have h1 := List.mem_filter.1 (s2.mem_iff.1 hx)
    exact (some_iff (hb x h1.1)).1 h1.2
  have hlen := List.length_filter_le someB l
  refine ⟨(sortRanges (l.filter someB)).foldl mrgR [], ?_, ?_, ?_⟩
  · unfold addrset_Normal.f addrset_kept.f
    rw [if_pos hl]
    have h := ev_aNormal0 (sortRanges (l.filter someB)) (by omega) hw _ 0 [] rfl (Nat.zero_le _) (Nat.le_refl _) (by simp)
    simpa using h
  · refine (mergeR_spec _ hw ?_).congr (fun n => ?_)
    · rw [List.pairwise_iff_getElem] at s3 ⊢
      intro i j hi hj hij
      have := s3 i j hi hj hij
      rw [ltA_iff (hw _ (List.getElem_mem hj)).1.1 (hw _ (List.getElem_mem hi)).1.1] at this
      omega
    · rw [asm_perm s2, asm_filter l hb]
  · have := foldR_len (sortRanges (l.filter someB)) []
    simp at this
    omega
def mergeA (x r : Rg) : Rg := ⟨if av x.f0 < av r.f0 then x.f0 else r.f0, if av r.f1 < av x.f1 then x.f1 else r.f1⟩
def insR (r : Rg) : List Rg → List Rg
  | [] => [r]
  | x :: t => if av x.f1 + 1 < av r.f0 then x :: insR r t else if av r.f1 + 1 < av x.f0 then r :: x :: t else insR (mergeA x r) t
theorem mergeA_RW {x r : Rg} (hx : RW x) (hr : RW r) (h1 : ¬ av x.f1 + 1 < av r.f0) (h2 : ¬ av r.f1 + 1 < av x.f0) : RW (mergeA x r) := by
  have hf : x.f0.f0 = r.f0.f0 := by
    rcases hx.num with ⟨_, _, n1 | n1⟩ <;> rcases hr.num with ⟨_, _, n2 | n2⟩
    · rw [n1.1, n2.1]
    · omega
    · omega
    · rw [n1.1, n2.1]
  have e1 := hx.2.2.1
  have e2 := hr.2.2.1
  unfold mergeA
  refine ⟨?_, ?_, ?_, ?_⟩
  · show AF (if _ then _ else _)
    split
    · exact hx.1
    · exact hr.1
  · show AF (if _ then _ else _)
    split
    · exact hx.2.1
    · exact hr.2.1
  · show (if _ then _ else _ : Ad).f0 = (if _ then _ else _ : Ad).f0
    split <;> split
    · exact e1
    · rw [hf]; exact e2
    · rw [← hf]; exact e1
    · exact e2
  · have := hx.2.2.2
    have := hr.2.2.2
    show av (if _ then _ else _) ≤ av (if _ then _ else _)
    split <;> split <;> omega
theorem insR_ins : ∀ (l : List Rg) (r : Rg), RW r → (∀ x ∈ l, RW x) → (insR r l).map rsp = ins (rsp r) (l.map rsp) ∧ ∀ z ∈ insR r l, RW z
  | [], r, hr, _ => ⟨rfl, fun z hz => by rw [List.mem_singleton.1 hz]; exact hr⟩
  | x :: t, r, hr, hl => by
    have hx := hl x (List.mem_cons_self ..)
    have ht : ∀ z ∈ t, RW z := fun z hz => hl z (List.mem_cons_of_mem _ hz)
    have x2 := hx.2.2.2
    have r2 := hr.2.2.2
    simp only [insR, List.map_cons, ins]
    show _ = (if av r.f1 + 1 < av x.f0 then _ else if av x.f1 + 1 < av r.f0 then _ else _) ∧ _
    by_cases h1 : av x.f1 + 1 < av r.f0
    · rw [if_pos h1, if_neg (by omega), if_pos h1]
      obtain ⟨e1, e2⟩ := insR_ins t r hr ht
      refine ⟨by rw [List.map_cons, e1], fun z hz => ?_⟩
      rcases List.mem_cons.1 hz with rfl | hz
      · exact hx
      · exact e2 z hz
    · rw [if_neg h1]
      by_cases h2 : av r.f1 + 1 < av x.f0
      · rw [if_pos h2, if_pos h2]
        refine ⟨rfl, fun z hz => ?_⟩
        rcases List.mem_cons.1 hz with rfl | hz
        · exact hr
        · exact hl z hz
      · rw [if_neg h2, if_neg h2, if_neg h1]
        have hm := mergeA_RW hx hr h1 h2
        obtain ⟨e1, e2⟩ := insR_ins t (mergeA x r) hm ht
        refine ⟨?_, e2⟩
        rw [e1]
        congr 1
        show (av (if _ then _ else _), av (if _ then _ else _)) = (min (av r.f0) (av x.f0), max (av r.f1) (av x.f1))
        refine Prod.ext ?_ ?_
        · show av (if _ then _ else _) = min (av r.f0) (av x.f0)
          split <;> omega
        · show av (if _ then _ else _) = max (av r.f1) (av x.f1)
          split <;> omega
theorem insR_spec {l : List Rg} {r : Rg} (hc : CanFrom 0 (l.map rsp)) (hl : ∀ x ∈ l, RW x) (hr : RW r) : ACan (fun n => (av r.f0 ≤ n ∧ n ≤ av r.f1) ∨ ASM l n) (insR r l) := by
  obtain ⟨e1, e2⟩ := insR_ins l r hr hl
  refine ⟨?_, e2, fun n => ?_⟩
  · rw [e1]; exact ins_can _ _ _ hc hr.num.1 hr.2.2.2
  · rw [asm_mem e2, e1, ins_mem _ _ 0 n hc hr.2.2.2]
    show (_ ∧ _) ∨ _ ↔ (_ ∧ _) ∨ ASM l n
    rw [asm_mem hl]
    rfl
theorem insR_len : ∀ (l : List Rg) (r : Rg), (insR r l).length ≤ l.length + 1
  | [], r => by simp [insR]
  | x :: t, r => by
    unfold insR
    split
    · have := insR_len t r; simp; omega
    · split
      · simp
      · have := insR_len t (mergeA x r); simp; omega
theorem ev_radd_done (l : List Rg) (r : Rg) (hl : l.length < 2932031007000) : ∀ (d i : Nat) (out : List Rg), l.length - i = d → i ≤ l.length → out.length ≤ i + 1 → Ev (fun k => intrusionref07_add.l0 k l out true (i : Int) r.f0.f0 r.f0.f1 r.f0.f2 r.f1.f0 r.f1.f1 r.f1.f2) (out ++ l.drop i) := by
  intro d
  induction d with
  | zero =>
    intro i out hd hi ho
    have : i = l.length := by omega
    subst this
    refine Ev.step (f := fun _ => some out) (fun k => ?_) (by simpa using Ev.now out)
    simp only [intrusionref07_add.l0]; rw [if_neg (by omega), if_pos (by trivial)]
  | succ d ih =>
    intro i out hd hi ho
    have hlt : i < l.length := by omega
    have h2 := ih (i + 1) (out ++ [l[i]]) (by omega) (by omega) (by simp; omega)
    rw [dropc l i hlt, show out ++ l[i] :: l.drop (i + 1) = out ++ [l[i]] ++ l.drop (i + 1) from by simp]
    refine Ev.step (f := fun k => intrusionref07_add.j1 k l out true (i : Int) true r.f0.f0 r.f0.f1 r.f0.f2 r.f1.f0 r.f1.f1 r.f1.f2 l[i].f0.f0 l[i].f0.f1 l[i].f0.f2 l[i].f1.f0 l[i].f1.f1 l[i].f1.f2) (fun k => ?_) (Ev.step (fun k => ?_) h2)
    · simp only [intrusionref07_add.l0]
      rw [if_pos (by omega), if_pos (by omega), if_pos (by trivial), rd_getR l i hlt]
    · simp only [intrusionref07_add.j1]
      rw [if_pos (by trivial), if_pos (by omega), wsucc i (by omega)]
theorem apart_iff {x r : Rg} (hx : RW x) (hr : RW r) : (av x.f1 < av r.f0 ∧ ¬ nearP x r) ↔ av x.f1 + 1 < av r.f0 := by
  have x2 := hx.2.2.2
  constructor
  · rintro ⟨h1, h2⟩
    have h3 := nearP_iff hx hr (by omega)
    apply Classical.byContradiction
    intro hc
    exact h2 (h3.2 (by omega))
  · intro h
    have := nearP_iff hx hr (by omega)
    exact ⟨by omega, fun e => by have := this.1 e; omega⟩
theorem ev_radd0 (l : List Rg) (hl : l.length < 2932031007000) (hL : ∀ x ∈ l, RW x) : ∀ (d i : Nat) (out : List Rg) (r : Rg), RW r → l.length - i = d → i ≤ l.length → out.length ≤ i → Ev (fun k => intrusionref07_add.l0 k l out false (i : Int) r.f0.f0 r.f0.f1 r.f0.f2 r.f1.f0 r.f1.f1 r.f1.f2) (out ++ insR r (l.drop i)) := by
  intro d
  induction d with
  | zero =>
    intro i out r hr hd hi ho
    have : i = l.length := by omega
    subst this
    refine Ev.step (f := fun _ => some (out ++ [r])) (fun k => ?_) (by simpa [insR] using Ev.now (out ++ [r]))
    simp only [intrusionref07_add.l0]; rw [if_neg (by omega), if_neg (by decide), if_pos (by omega)]
  | succ d ih =>
    intro i out r hr hd hi ho
    have hlt : i < l.length := by omega
    have hx := hL l[i] (List.getElem_mem hlt)
    rw [dropc l i hlt]
    unfold insR
    have hj2m : ¬ av l[i].f1 + 1 < av r.f0 → ¬ av r.f1 + 1 < av l[i].f0 → Ev (fun k => intrusionref07_add.j2 k l out false (i : Int) false r.f0.f0 r.f0.f1 r.f0.f2 r.f1.f0 r.f1.f1 r.f1.f2 l[i].f0.f0 l[i].f0.f1 l[i].f0.f2 l[i].f1.f0 l[i].f1.f1 l[i].f1.f2) (out ++ insR (mergeA l[i] r) (l.drop (i + 1))) := fun g1 g2 => by
      refine Ev.step (fun k => ?_) (ih (i + 1) out (mergeA l[i] r) (mergeA_RW hx hr g1 g2) (by omega) (by omega) (by omega))
      simp only [intrusionref07_add.j2]
      rw [if_neg (by decide), before_eq l[i].f0 r.f0 hx.1.1 hr.1.1, before_eq r.f1 l[i].f1 hr.2.1.1 hx.2.1.1, wsucc i (by omega)]
      simp only [Option.bind_some, decide_eq_true_eq]
      unfold mergeA
      by_cases e1 : av l[i].f0 < av r.f0
      · rw [if_pos e1]
        by_cases e2 : av r.f1 < av l[i].f1
        · rw [if_pos e2]; simp only [if_pos e1, if_pos e2]
        · rw [if_neg e2]; simp only [if_pos e1, if_neg e2]
      · rw [if_neg e1]
        by_cases e2 : av r.f1 < av l[i].f1
        · rw [if_pos e2]; simp only [if_neg e1, if_pos e2]
        · rw [if_neg e2]; simp only [if_neg e1, if_neg e2]
    have hj2 : ¬ av l[i].f1 + 1 < av r.f0 → Ev (fun k => intrusionref07_add.j2 k l out false (i : Int) (decide (av r.f1 + 1 < av l[i].f0)) r.f0.f0 r.f0.f1 r.f0.f2 r.f1.f0 r.f1.f1 r.f1.f2 l[i].f0.f0 l[i].f0.f1 l[i].f0.f2 l[i].f1.f0 l[i].f1.f1 l[i].f1.f2) (out ++ (if av r.f1 + 1 < av l[i].f0 then r :: l[i] :: l.drop (i + 1) else insR (mergeA l[i] r) (l.drop (i + 1)))) := fun g1 => by
      by_cases g2 : av r.f1 + 1 < av l[i].f0
      · rw [if_pos g2, decide_eq_true g2]
        have h3 := ev_radd_done l r hl (l.length - (i + 1)) (i + 1) (out ++ [r, l[i]]) rfl (by omega) (by simp; omega)
        rw [show out ++ r :: l[i] :: l.drop (i + 1) = out ++ [r, l[i]] ++ l.drop (i + 1) from by simp]
        refine Ev.step (fun k => ?_) h3
        simp only [intrusionref07_add.j2]
        rw [if_pos (by trivial)]
        simp only [Option.bind_some]
        rw [if_pos (by simp; omega), wsucc i (by omega)]
      · rw [if_neg g2, decide_eq_false g2]
        exact hj2m g1 g2
    have hj1 : Ev (fun k => intrusionref07_add.j1 k l out false (i : Int) (decide (av l[i].f1 + 1 < av r.f0)) r.f0.f0 r.f0.f1 r.f0.f2 r.f1.f0 r.f1.f1 r.f1.f2 l[i].f0.f0 l[i].f0.f1 l[i].f0.f2 l[i].f1.f0 l[i].f1.f1 l[i].f1.f2) (out ++ (if av l[i].f1 + 1 < av r.f0 then l[i] :: insR r (l.drop (i + 1)) else if av r.f1 + 1 < av l[i].f0 then r :: l[i] :: l.drop (i + 1) else insR (mergeA l[i] r) (l.drop (i + 1)))) := by
      by_cases g1 : av l[i].f1 + 1 < av r.f0
      · rw [if_pos g1, decide_eq_true g1]
        have h3 := ih (i + 1) (out ++ [l[i]]) r hr (by omega) (by omega) (by simp; omega)
        rw [show out ++ l[i] :: insR r (l.drop (i + 1)) = out ++ [l[i]] ++ insR r (l.drop (i + 1)) from by simp]
        refine Ev.step (fun k => ?_) h3
        simp only [intrusionref07_add.j1]
        rw [if_pos (by trivial), if_pos (by omega), wsucc i (by omega)]
      · rw [if_neg g1, decide_eq_false g1]
        refine Ev.step (fun k => ?_) (hj2 g1)
        simp only [intrusionref07_add.j1]
        rw [if_neg (by decide), before_eq r.f1 l[i].f0 hr.2.1.1 hx.1.1]
        simp only [Option.bind_some, decide_eq_true_eq]
        have ha := apart_iff hr hx
        by_cases e : av r.f1 < av l[i].f0
        · rw [if_pos e, joined_eq r l[i] hr hx]
          simp only [Option.bind_some]
          congr 1
          rw [Bool.eq_iff_iff]
          simp only [Bool.not_eq_true', decide_eq_false_iff_not, decide_eq_true_eq]
          rw [← ha]
          exact ⟨fun h => ⟨e, h⟩, fun h => h.2⟩
        · rw [if_neg e, decide_eq_false (by omega)]
    refine Ev.step (fun k => ?_) hj1
    simp only [intrusionref07_add.l0]
    rw [if_pos (by omega), if_pos (by omega), if_neg (by decide), rd_getR l i hlt, before_eq l[i].f1 r.f0 hx.2.1.1 hr.1.1]
    simp only [Option.bind_some, decide_eq_true_eq]
    have ha := apart_iff hx hr
    by_cases e : av l[i].f1 < av r.f0
    · rw [if_pos e, joined_eq l[i] r hx hr]
      simp only [Option.bind_some]
      congr 1
      rw [Bool.eq_iff_iff]
      simp only [Bool.not_eq_true', decide_eq_false_iff_not, decide_eq_true_eq]
      rw [← ha]
      exact ⟨fun h => ⟨e, h⟩, fun h => h.2⟩
    · rw [if_neg e, decide_eq_false (by omega)]
theorem radd_spec {P : Int → Prop} {l : List Rg} (h : ACan P l) (r : Rg) (hr : RW r) (hl : l.length < 2932031007000) : ∃ s, Ev (fun k => intrusionref07_add.f k l r.f0.f0 r.f0.f1 r.f0.f2 r.f1.f0 r.f1.f1 r.f1.f2) s ∧ ACan (fun n => P n ∨ (av r.f0 ≤ n ∧ n ≤ av r.f1)) s ∧ s.length ≤ l.length + 1 := by
  refine ⟨insR r l, ?_, ?_, insR_len l r⟩
  · have := ev_radd0 l hl h.2.1 l.length 0 [] r hr rfl (Nat.zero_le _) (Nat.le_refl _)
    simpa [intrusionref07_add.f] using this
  · refine (insR_spec h.1 h.2.1 hr).congr (fun n => ?_)
    rw [h.2.2 n]
    exact or_comm
theorem ev_rNormal0 (L : List Rg) (hl : L.length < 2932031007000) (hL : ∀ x ∈ L, RB x) : ∀ (d i : Nat) (out : List Rg) (P : Int → Prop), L.length - i = d → i ≤ L.length → out.length ≤ i → ACan P out → ∃ r, Ev (fun k => intrusionref07_Normal.l0 k L out (i : Int)) r ∧ ACan (fun n => P n ∨ ASM (L.drop i) n) r ∧ r.length ≤ L.length := by
  intro d
  induction d with
  | zero =>
    intro i out P hd hi ho hc
    have : i = L.length := by omega
    subst this
    refine ⟨out, Ev.step (f := fun _ => some out) (fun k => ?_) (Ev.now out), hc.congr (fun n => ?_), ho⟩
    · simp only [intrusionref07_Normal.l0]; rw [if_neg (by omega)]
    · rw [List.drop_length, asm_nil, or_false]
  | succ d ih =>
    intro i out P hd hi ho hc
    have hlt : i < L.length := by omega
    have hb := hL L[i] (List.getElem_mem hlt)
    by_cases hs : RW L[i]
    · obtain ⟨s, s1, s2, s3⟩ := radd_spec hc L[i] hs (by omega)
      obtain ⟨r, r1, r2, r3⟩ := ih (i + 1) s _ (by omega) (by omega) (by omega) s2
      refine ⟨r, ?_, r2.congr (fun n => ?_), r3⟩
      · refine Ev.step (f := fun k => (intrusionref07_add.f k out L[i].f0.f0 L[i].f0.f1 L[i].f0.f2 L[i].f1.f0 L[i].f1.f1 L[i].f1.f2).bind fun t => intrusionref07_Normal.l0 k L t ((i + 1 : Nat) : Int)) (fun k => ?_) (Ev.bind s1 r1)
        simp only [intrusionref07_Normal.l0]
        rw [if_pos (by omega), if_pos (by omega), rd_getR L i hlt, rsome_eq _ hb, (some_iff hb).2 hs, wsucc i (by omega)]
        rfl
      · rw [dropc L i hlt, asm_cons, or_assoc]
        exact or_congr_right (or_congr_left ⟨fun h => ⟨hs, h⟩, fun h => h.2⟩)
    · obtain ⟨r, r1, r2, r3⟩ := ih (i + 1) out P (by omega) (by omega) (by omega) hc
      refine ⟨r, ?_, r2.congr (fun n => ?_), r3⟩
      · refine Ev.step (fun k => ?_) r1
        simp only [intrusionref07_Normal.l0]
        rw [if_pos (by omega), if_pos (by omega), rd_getR L i hlt, rsome_eq _ hb, Bool.eq_false_iff.2 (fun h => hs ((some_iff hb).1 h)), wsucc i (by omega)]
        rfl
      · rw [dropc L i hlt, asm_cons]
        exact or_congr_right ⟨.inr, fun h => h.elim (fun h => (hs h.1).elim) id⟩
theorem ACan.none : ACan (fun _ => False) [] := ACan.nil (fun _ h => h)
theorem arNormal_spec (l : List Rg) (hl : l.length < 2932031007000) (hb : ∀ x ∈ l, RB x) : ∃ r, Ev (fun k => intrusionref07_Normal.f k l) r ∧ ACan (ASM l) r ∧ r.length ≤ l.length := by
  obtain ⟨r, r1, r2, r3⟩ := ev_rNormal0 l hl hb l.length 0 [] _ rfl (Nat.zero_le _) (Nat.le_refl _) ACan.none
  exact ⟨r, r1, r2.congr (fun n => by simp), r3⟩
theorem ev_aSame (L : List Rg) (hl : L.length < 2932031007402) : ∀ (d i : Nat), L.length - i = d → i ≤ L.length → Ev (fun k => intrusionref07_Same.l0 k L L (i : Int)) true := by
  intro d
  induction d with
  | zero =>
    intro i hd hi
    have : i = L.length := by omega
    subst this
    refine Ev.step (f := fun _ => some true) (fun k => ?_) (Ev.now true)
    simp only [intrusionref07_Same.l0]; rw [if_neg (by omega)]
  | succ d ih =>
    intro i hd hi
    have hlt : i < L.length := by omega
    refine Ev.step (fun k => ?_) (ih (i + 1) (by omega) (by omega))
    simp only [intrusionref07_Same.l0]
    rw [if_pos (by omega), if_pos (by omega), if_pos (by omega), rd_getR L i hlt, wsucc i (by omega)]
    simp
theorem aSame_ev (L : List Rg) (hl : L.length < 2932031007402) : Ev (fun k => intrusionref07_Same.f k L L) true := by
  have h := ev_aSame L hl L.length 0 rfl (Nat.zero_le _)
  refine Ev.congr (fun k => ?_) h
  unfold intrusionref07_Same.f
  rw [if_pos (by trivial)]
  rfl
end Go.Proofs.Ytcgfpffgiimgmaa.Q
end

section
namespace Go.Proofs.Ytcgfpffgiimgmaa.Q
open Go.RowKit Go.Proofs.YtcgfpffgiimgmaaW.PrintWords Go.Proofs.YtcgfpffgiimgmaaW.PrintLast Go.Proofs.YtcgfpffgiimgmaaW.PrintMore
attribute [local go_sem] max2_int min2_int max_two min_two max_three min_three max_four min_four
set_option linter.unusedVariables false
set_option linter.unusedSimpArgs false
def intrusionref07_Valid.l0 : Nat → List (S66) → Int → Option (Bool)
  | 0, _, _ => none
  | k + 1, x0, x3 => if x3 < (x0.length : Int) then (if 0 ≤ x3 then ((intrusionref07_Some.f ((rd_T66 x0 x3).f0.f0) ((rd_T66 x0 x3).f0.f1) ((rd_T66 x0 x3).f0.f2) ((rd_T66 x0 x3).f1.f0) ((rd_T66 x0 x3).f1.f1) ((rd_T66 x0 x3).f1.f2)).bind fun t640 => (if t640 = true then (if x3 > 0 then (if 0 ≤ (wrap64 (x3 - 1)) then (if (wrap64 (x3 - 1)) < (x0.length : Int) then ((intrusionref07_Before.f ((rd_T66 x0 (wrap64 (x3 - 1))).f1.f0) ((rd_T66 x0 (wrap64 (x3 - 1))).f1.f1) ((rd_T66 x0 (wrap64 (x3 - 1))).f1.f2) ((rd_T66 x0 x3).f0.f0) ((rd_T66 x0 x3).f0.f1) ((rd_T66 x0 x3).f0.f2)).bind fun t643 => (if t643 = true then ((intrusionref07_joined.f ((rd_T66 x0 (wrap64 (x3 - 1))).f0.f0) ((rd_T66 x0 (wrap64 (x3 - 1))).f0.f1) ((rd_T66 x0 (wrap64 (x3 - 1))).f0.f2) ((rd_T66 x0 (wrap64 (x3 - 1))).f1.f0) ((rd_T66 x0 (wrap64 (x3 - 1))).f1.f1) ((rd_T66 x0 (wrap64 (x3 - 1))).f1.f2) ((rd_T66 x0 x3).f0.f0) ((rd_T66 x0 x3).f0.f1) ((rd_T66 x0 x3).f0.f2) ((rd_T66 x0 x3).f1.f0) ((rd_T66 x0 x3).f1.f1) ((rd_T66 x0 x3).f1.f2)).bind fun t646 => (if t646 = true then (some false) else (intrusionref07_Valid.l0 k x0 (wrap64 (x3 + 1))))) else (some false))) else (none)) else (none)) else (intrusionref07_Valid.l0 k x0 (wrap64 (x3 + 1)))) else (some false))) else (none)) else (some true)
def intrusionref07_Valid.f (k : Nat) (l0 : List (S66)) : Option (Bool) := intrusionref07_Valid.l0 k l0 0
theorem intrusionref07_Valid.mono_l : ∀ k, (∀ y0 y1, LeO (intrusionref07_Valid.l0 k y0 y1) (intrusionref07_Valid.l0 (k + 1) y0 y1))
  | 0 => fun _ _ r h => by simp [intrusionref07_Valid.l0] at h
  | k + 1 => by
    have ih0 := intrusionref07_Valid.mono_l k
    · intro y0 y1
      unfold intrusionref07_Valid.l0
      repeat' first
      | (with_reducible exact ih0 _ _)
      | (with_reducible exact LeO.refl _)
      | (with_reducible exact LeO.none _)
      | (with_reducible refine LeO.ite ?_ ?_)
      | (with_reducible refine LeO.bind ?_ (fun _ => ?_))
      | exact ih0 _ _
      | exact LeO.none _
      | refine LeO.ite ?_ ?_
      | refine LeO.bind ?_ (fun _ => ?_)
theorem intrusionref07_Valid.mono : ∀ a0 k, LeO (intrusionref07_Valid.f k a0) (intrusionref07_Valid.f (k + 1) a0) := by
  intro a0 k
  have ih0 := intrusionref07_Valid.mono_l k
  unfold intrusionref07_Valid.f
  repeat' first
      | (with_reducible exact ih0 _ _)
      | (with_reducible exact LeO.refl _)
      | (with_reducible exact LeO.none _)
      | (with_reducible refine LeO.ite ?_ ?_)
      | (with_reducible refine LeO.bind ?_ (fun _ => ?_))
      | exact ih0 _ _
      | exact LeO.none _
      | refine LeO.ite ?_ ?_
      | refine LeO.bind ?_ (fun _ => ?_)
end Go.Proofs.Ytcgfpffgiimgmaa.Q
end

section
namespace Go.Proofs.Ytcgfpffgiimgmaa.Q
open Go.RowKit Go.Proofs.YtcgfpffgiimgmaaW.PrintWords Go.Proofs.YtcgfpffgiimgmaaW.PrintLast Go.Proofs.YtcgfpffgiimgmaaW.PrintMore
attribute [local go_sem] max2_int min2_int max_two min_two max_three min_three max_four min_four
set_option linter.unusedVariables false
set_option linter.unusedSimpArgs false
def intrusionref07_Contains.l0 : Nat → List (S66) → Int → Bool → Int → Int → Option (Bool)
  | 0, _, _, _, _, _ => none
  | k + 1, x0, x5, x648000, x648001, x648002 => if x5 < (x0.length : Int) then ((intrusionref07_Fine.f x648000 x648001 x648002).bind fun t648 => (if t648 = true then (if 0 ≤ x5 then ((intrusionref07_Some.f ((rd_T66 x0 x5).f0.f0) ((rd_T66 x0 x5).f0.f1) ((rd_T66 x0 x5).f0.f2) ((rd_T66 x0 x5).f1.f0) ((rd_T66 x0 x5).f1.f1) ((rd_T66 x0 x5).f1.f2)).bind fun t650 => (if t650 = true then (if (((rd_T66 x0 x5).f0.f0) == x648000) = true then ((intrusionref07_Before.f x648000 x648001 x648002 ((rd_T66 x0 x5).f0.f0) ((rd_T66 x0 x5).f0.f1) ((rd_T66 x0 x5).f0.f2)).bind fun t653 => (if t653 = true then (intrusionref07_Contains.l0 k x0 (wrap64 (x5 + 1)) x648000 x648001 x648002) else ((intrusionref07_Before.f ((rd_T66 x0 x5).f1.f0) ((rd_T66 x0 x5).f1.f1) ((rd_T66 x0 x5).f1.f2) x648000 x648001 x648002).bind fun t655 => (if t655 = true then (intrusionref07_Contains.l0 k x0 (wrap64 (x5 + 1)) x648000 x648001 x648002) else (some true))))) else (intrusionref07_Contains.l0 k x0 (wrap64 (x5 + 1)) x648000 x648001 x648002)) else (intrusionref07_Contains.l0 k x0 (wrap64 (x5 + 1)) x648000 x648001 x648002))) else (none)) else (intrusionref07_Contains.l0 k x0 (wrap64 (x5 + 1)) x648000 x648001 x648002))) else (some false)
def intrusionref07_Contains.f (k : Nat) (l0 : List (S66)) (a1_0 : Bool) (a1_1 : Int) (a1_2 : Int) : Option (Bool) := intrusionref07_Contains.l0 k l0 0 a1_0 a1_1 a1_2
theorem intrusionref07_Contains.mono_l : ∀ k, (∀ y0 y1 y2 y3 y4, LeO (intrusionref07_Contains.l0 k y0 y1 y2 y3 y4) (intrusionref07_Contains.l0 (k + 1) y0 y1 y2 y3 y4))
  | 0 => fun _ _ _ _ _ r h => by simp [intrusionref07_Contains.l0] at h
  | k + 1 => by
    have ih0 := intrusionref07_Contains.mono_l k
    · intro y0 y1 y2 y3 y4
      unfold intrusionref07_Contains.l0
      repeat' first
      | (with_reducible exact ih0 _ _ _ _ _)
      | (with_reducible exact LeO.refl _)
      | (with_reducible exact LeO.none _)
      | (with_reducible refine LeO.ite ?_ ?_)
      | (with_reducible refine LeO.bind ?_ (fun _ => ?_))
      | exact ih0 _ _ _ _ _
      | exact LeO.none _
      | refine LeO.ite ?_ ?_
      | refine LeO.bind ?_ (fun _ => ?_)
theorem intrusionref07_Contains.mono : ∀ a0 a1 a2 a3 k, LeO (intrusionref07_Contains.f k a0 a1 a2 a3) (intrusionref07_Contains.f (k + 1) a0 a1 a2 a3) := by
  intro a0 a1 a2 a3 k
  have ih0 := intrusionref07_Contains.mono_l k
  unfold intrusionref07_Contains.f
  repeat' first
      | (with_reducible exact ih0 _ _ _ _ _)
      | (with_reducible exact LeO.refl _)
      | (with_reducible exact LeO.none _)
      | (with_reducible refine LeO.ite ?_ ?_)
      | (with_reducible refine LeO.bind ?_ (fun _ => ?_))
      | exact ih0 _ _ _ _ _
      | exact LeO.none _
      | refine LeO.ite ?_ ?_
      | refine LeO.bind ?_ (fun _ => ?_)
end Go.Proofs.Ytcgfpffgiimgmaa.Q
end

section
set_option linter.unusedVariables false
set_option linter.unusedSimpArgs false
namespace Go.Proofs.Ytcgfpffgiimgmaa.Q
open Go.RowKit Go.Proofs.YtcgfpffgiimgmaaW.PrintWords Go.Proofs.YtcgfpffgiimgmaaW.PrintLast Go.Proofs.YtcgfpffgiimgmaaW.PrintMore Go.Proofs.Ytcgfpffgiimgmaa.Canon
def okAtR (L : List Rg) (i : Nat) : Bool := if h : i < L.length then someB L[i] && (if h0 : 0 < i then decide (av (L[i - 1]'(by omega)).f1 + 1 < av L[i].f0) else true) else true
def okAllR (L : List Rg) : Bool := (List.range' 0 L.length).all (okAtR L)
theorem okR_from (L : List Rg) (i : Nat) : (List.range' i (L.length - i)).all (okAtR L) = if i < L.length then okAtR L i && (List.range' (i + 1) (L.length - (i + 1))).all (okAtR L) else true := by
  by_cases h : i < L.length
  · rw [if_pos h, show L.length - i = (L.length - (i + 1)) + 1 from by omega, List.range'_succ, List.all_cons]
  · rw [if_neg h, show L.length - i = 0 from by omega]
    rfl
theorem ev_aValid (L : List Rg) (hl : L.length < 2932031007402) (hq : ∀ x ∈ L, RB x) : ∀ (d i : Nat), L.length - i = d → i ≤ L.length → (∀ j, j < i → okAtR L j = true) →
    Ev (fun k => addrset_Valid.l0 k L L (L.length : Int) (i : Int)) ((List.range' i (L.length - i)).all (okAtR L)) ∧ Ev (fun k => intrusionref07_Valid.l0 k L (i : Int)) ((List.range' i (L.length - i)).all (okAtR L)) := by
  intro d
  induction d with
  | zero =>
    intro i hd hi _
    have : i = L.length := by omega
    subst this
    rw [okR_from, if_neg (by omega)]
    constructor
    · refine Ev.step (f := fun _ => some true) (fun k => ?_) (Ev.now true)
      simp only [addrset_Valid.l0]; rw [if_neg (by omega)]
    · refine Ev.step (f := fun _ => some true) (fun k => ?_) (Ev.now true)
      simp only [intrusionref07_Valid.l0]; rw [if_neg (by omega)]
  | succ d ih =>
    intro i hd hi hprev
    have hlt : i < L.length := by omega
    have hx := hq L[i] (List.getElem_mem hlt)
    rw [okR_from, if_pos hlt]
    have key : okAtR L i = true → Ev (fun k => addrset_Valid.l0 k L L (L.length : Int) ((i + 1 : Nat) : Int)) ((List.range' (i + 1) (L.length - (i + 1))).all (okAtR L)) ∧ Ev (fun k => intrusionref07_Valid.l0 k L ((i + 1 : Nat) : Int)) ((List.range' (i + 1) (L.length - (i + 1))).all (okAtR L)) := fun hb => ih (i + 1) (by omega) (by omega) (fun j hj => by
      by_cases e : j = i
      · subst e; exact hb
      · exact hprev j (by omega))
    have hdef : okAtR L i = (someB L[i] && (if h0 : 0 < i then decide (av (L[i - 1]'(by omega)).f1 + 1 < av L[i].f0) else true)) := by unfold okAtR; rw [dif_pos hlt]
    by_cases c1 : someB L[i] = true
    · have hw := (some_iff hx).1 c1
      by_cases c4 : 0 < i
      · have hp := hprev (i - 1) (by omega)
        have hpb := hq (L[i - 1]'(by omega)) (List.getElem_mem _)
        have hpw : RW (L[i - 1]'(by omega)) := by
          unfold okAtR at hp
          rw [dif_pos (by omega), Bool.and_eq_true] at hp
          exact (some_iff hpb).1 hp.1
        have hi1 := wpred i c4 (by omega)
        have p2 := hpw.2.2.2
        by_cases c5 : av (L[i - 1]'(by omega)).f1 + 1 < av L[i].f0
        · have hb : okAtR L i = true := by rw [hdef, c1, dif_pos c4, decide_eq_true c5]; rfl
          obtain ⟨e1, e2⟩ := key hb
          rw [hb, Bool.true_and]
          obtain ⟨n1, n2⟩ := (apart_iff hpw hw).2 c5
          constructor
          · refine Ev.step (fun k => ?_) e1
            simp only [addrset_Valid.l0]
            rw [if_pos (by omega), if_pos (by omega), if_pos (by omega), rd_getR L i hlt, some_eq, c1]
            simp only [Option.bind_some, if_true]
            rw [if_pos (by omega), hi1, if_pos (by omega), if_pos (by omega), rd_getR L (i - 1) (by omega), cmp_f]
            simp only [Option.bind_some]
            rw [if_neg (by have := cmp_ge' hpw.2.1.1 hw.1.1; omega), near_eq _ _ hpw hw, decide_eq_false n2]
            simp only [Option.bind_some]
            rw [if_neg (by decide), wsucc i (by omega)]
          · refine Ev.step (fun k => ?_) e2
            simp only [intrusionref07_Valid.l0]
            rw [if_pos (by omega), if_pos (by omega), rd_getR L i hlt, rsome_eq _ hx, c1]
            simp only [Option.bind_some, if_true]
            rw [if_pos (by omega), hi1, if_pos (by omega), if_pos (by omega), rd_getR L (i - 1) (by omega), before_eq _ _ hpw.2.1.1 hw.1.1, decide_eq_true n1]
            simp only [Option.bind_some, if_true]
            rw [joined_eq _ _ hpw hw, decide_eq_false n2]
            simp only [Option.bind_some]
            rw [if_neg (by decide), wsucc i (by omega)]
        · have hb : okAtR L i = false := by rw [hdef, c1, dif_pos c4, decide_eq_false c5]; rfl
          rw [hb, Bool.false_and]
          have ha := apart_iff hpw hw
          constructor
          · refine Ev.step (f := fun _ => some false) (fun k => ?_) (Ev.now false)
            simp only [addrset_Valid.l0]
            rw [if_pos (by omega), if_pos (by omega), if_pos (by omega), rd_getR L i hlt, some_eq, c1]
            simp only [Option.bind_some, if_true]
            rw [if_pos (by omega), hi1, if_pos (by omega), if_pos (by omega), rd_getR L (i - 1) (by omega), cmp_f]
            simp only [Option.bind_some]
            by_cases c6 : av (L[i - 1]'(by omega)).f1 < av L[i].f0
            · have n2 : nearP (L[i - 1]'(by omega)) L[i] := Classical.byContradiction (fun hc => c5 (ha.1 ⟨c6, hc⟩))
              rw [if_neg (by have := cmp_ge' hpw.2.1.1 hw.1.1; omega), near_eq _ _ hpw hw, decide_eq_true n2]
              rfl
            · rw [if_pos (by have := cmp_ge' hpw.2.1.1 hw.1.1; omega)]
          · refine Ev.step (f := fun _ => some false) (fun k => ?_) (Ev.now false)
            simp only [intrusionref07_Valid.l0]
            rw [if_pos (by omega), if_pos (by omega), rd_getR L i hlt, rsome_eq _ hx, c1]
            simp only [Option.bind_some, if_true]
            rw [if_pos (by omega), hi1, if_pos (by omega), if_pos (by omega), rd_getR L (i - 1) (by omega), before_eq _ _ hpw.2.1.1 hw.1.1]
            simp only [Option.bind_some]
            by_cases c6 : av (L[i - 1]'(by omega)).f1 < av L[i].f0
            · have n2 : nearP (L[i - 1]'(by omega)) L[i] := Classical.byContradiction (fun hc => c5 (ha.1 ⟨c6, hc⟩))
              rw [decide_eq_true c6, joined_eq _ _ hpw hw, decide_eq_true n2]
              rfl
            · rw [decide_eq_false c6]
              rfl
      · have hb : okAtR L i = true := by rw [hdef, c1, dif_neg c4]; rfl
        obtain ⟨e1, e2⟩ := key hb
        rw [hb, Bool.true_and]
        constructor
        · refine Ev.step (fun k => ?_) e1
          simp only [addrset_Valid.l0]
          rw [if_pos (by omega), if_pos (by omega), if_pos (by omega), rd_getR L i hlt, some_eq, c1]
          simp only [Option.bind_some, if_true]
          rw [if_neg (by omega), wsucc i (by omega)]
        · refine Ev.step (fun k => ?_) e2
          simp only [intrusionref07_Valid.l0]
          rw [if_pos (by omega), if_pos (by omega), rd_getR L i hlt, rsome_eq _ hx, c1]
          simp only [Option.bind_some, if_true]
          rw [if_neg (by omega), wsucc i (by omega)]
    · have c2 : someB L[i] = false := Bool.eq_false_iff.2 c1
      have hb : okAtR L i = false := by rw [hdef, c2]; rfl
      rw [hb, Bool.false_and]
      constructor
      · refine Ev.step (f := fun _ => some false) (fun k => ?_) (Ev.now false)
        simp only [addrset_Valid.l0]
        rw [if_pos (by omega), if_pos (by omega), if_pos (by omega), rd_getR L i hlt, some_eq, c2]
        rfl
      · refine Ev.step (f := fun _ => some false) (fun k => ?_) (Ev.now false)
        simp only [intrusionref07_Valid.l0]
        rw [if_pos (by omega), if_pos (by omega), rd_getR L i hlt, rsome_eq _ hx, c2]
        rfl
theorem aValid_ev (L : List Rg) (hl : L.length < 2932031007402) (hq : ∀ x ∈ L, RB x) : Ev (fun k => addrset_Valid.f k L) (okAllR L) ∧ Ev (fun k => intrusionref07_Valid.f k L) (okAllR L) := by
  have h := ev_aValid L hl hq L.length 0 rfl (Nat.zero_le _) (fun j hj => by omega)
  exact ⟨Ev.congr (fun k => rfl) h.1, Ev.congr (fun k => rfl) h.2⟩
theorem can_at : ∀ (L : List Rg) (i : Nat) (hi : i + 1 < L.length) (lo : Int), CanFrom lo (L.map rsp) → av (L[i]'(by omega)).f1 + 1 < av L[i + 1].f0
  | x :: y :: t, 0, _, lo, c => by
    have := c.2.2.1
    simp only [rsp] at this
    show av x.f1 + 1 < av y.f0
    omega
  | x :: t, i + 1, hi, lo, c => can_at t i (by simpa using hi) _ c.2.2
  | [], i, hi, lo, c => by simp at hi
theorem ACan.ok {P : Int → Prop} {r : List Rg} (h : ACan P r) : okAllR r = true := by
  unfold okAllR
  rw [List.all_eq_true]
  intro i hi
  have hlt : i < r.length := by
    have := List.mem_range'.1 hi
    obtain ⟨j, hj, e⟩ := this
    omega
  unfold okAtR
  rw [dif_pos hlt, Bool.and_eq_true]
  have hw := h.2.1 r[i] (List.getElem_mem hlt)
  refine ⟨(some_iff hw.b).2 hw, ?_⟩
  by_cases h0 : 0 < i
  · rw [dif_pos h0, decide_eq_true_eq]
    have := can_at r (i - 1) (by omega) 0 h.1
    simpa [show i - 1 + 1 = i from by omega] using this
  · rw [dif_neg h0]
end Go.Proofs.Ytcgfpffgiimgmaa.Q
end

section
set_option linter.unusedVariables false
set_option linter.unusedSimpArgs false
namespace Go.Proofs.Ytcgfpffgiimgmaa.Q
open Go.RowKit Go.Proofs.YtcgfpffgiimgmaaW.PrintWords Go.Proofs.YtcgfpffgiimgmaaW.PrintLast Go.Proofs.YtcgfpffgiimgmaaW.PrintMore Go.Proofs.Ytcgfpffgiimgmaa.Canon
theorem rd_getP (l : List Px) (k : Nat) (hk : k < l.length) : rd_T45 l (k : Int) = l[k] := by
  simp [rd_T45, List.getD_eq_getElem?_getD, List.getElem?_eq_getElem hk]
def ipA (n : Int) : Ad := ⟨false, 0, 167772160 + n⟩
theorem ip_eq (n : Int) (h0 : 0 ≤ n) (h1 : n ≤ 1000) : intrusionlaw07_ip.f n = some (false, 0, 167772160 + n) := by
  unfold intrusionlaw07_ip.f
  rw [u64_id (by omega) (by omega)]
theorem ipA_AF (n : Int) (h0 : 0 ≤ n) (h1 : n ≤ 1000) : AF (ipA n) := by
  refine ⟨⟨?_, ?_, ?_, ?_⟩, .inr ⟨?_, ?_⟩⟩ <;> simp [ipA] <;> omega
theorem ipR_RW (a b : Int) (h0 : 0 ≤ a) (h1 : b ≤ 1000) (h : a ≤ b) : RW ⟨ipA a, ipA b⟩ := ⟨ipA_AF a h0 (by omega), ipA_AF b (by omega) h1, rfl, by show av (ipA a) ≤ av (ipA b); unfold av ipA; simp; omega⟩
theorem one_can {r : Rg} (h : RW r) : ACan (ASM [r]) [r] := ACan.self ⟨h.num.1, h.2.2.2, trivial⟩ (fun x hx => by rw [List.mem_singleton.1 hx]; exact h)
theorem aw_normal1 : Ev (fun k => addrset_Normal.f k [⟨ipA 1, ipA 4⟩]) [⟨ipA 1, ipA 4⟩] := by
  have hw := ipR_RW 1 4 (by omega) (by omega) (by omega)
  obtain ⟨r, r1, r2, _⟩ := aNormal_spec [⟨ipA 1, ipA 4⟩] (by simp) (fun x hx => by rw [List.mem_singleton.1 hx]; exact hw.b)
  rw [r2.uniq (one_can hw)] at r1
  exact r1
theorem aw_normal2 : Ev (fun k => addrset_Normal.f k [⟨ipA 2, ipA 3⟩, ⟨ipA 1, ipA 1⟩]) [⟨ipA 1, ipA 3⟩] := by
  have h1 := ipR_RW 2 3 (by omega) (by omega) (by omega)
  have h2 := ipR_RW 1 1 (by omega) (by omega) (by omega)
  have h3 := ipR_RW 1 3 (by omega) (by omega) (by omega)
  obtain ⟨r, r1, r2, _⟩ := aNormal_spec [⟨ipA 2, ipA 3⟩, ⟨ipA 1, ipA 1⟩] (by simp) (fun x hx => by
    rcases List.mem_cons.1 hx with rfl | hx
    · exact h1.b
    · rw [List.mem_singleton.1 hx]; exact h2.b)
  have e : ACan (ASM [⟨ipA 2, ipA 3⟩, ⟨ipA 1, ipA 1⟩]) [⟨ipA 1, ipA 3⟩] := (one_can h3).congr (fun n => by
    rw [asm_cons, asm_cons, asm_cons, asm_nil]
    have v : ∀ m : Int, av (ipA m) = 167772160 + m := fun m => by unfold av ipA; simp
    simp only [h1, h2, h3, true_and, or_false, v]
    omega)
  rw [r2.uniq e] at r1
  exact r1
def awP : List Px := [⟨ipA 1, 32⟩, ⟨ipA 2, 31⟩, ⟨ipA 4, 32⟩]
theorem aw_all : pAll 60 [⟨ipA 1, ipA 4⟩] [] = some (some awP) := by kernel_rfl
theorem aw_pref : Ev (fun k => addrset_Prefixes.f k [⟨ipA 1, ipA 4⟩]) awP := by
  unfold addrset_Prefixes.f
  refine Ev.bind (f := fun k x => (pAll k x []).bind fun o => some (o.getD [])) aw_normal1 ?_
  refine Ev.bind (f := fun _ o => some (o.getD [])) (Ev.of (fun k => pAll_mono k _ _) aw_all) (Ev.now _)
theorem aw_notvalid : okAllR [⟨ipA 2, ipA 3⟩, ⟨ipA 1, ipA 1⟩] = false := by decide +kernel
theorem aawake_ev : Ev (fun k => intrusionlaw07_awake.f k) true := by
  unfold intrusionlaw07_awake.f
  rw [ip_eq 1 (by omega) (by omega), ip_eq 2 (by omega) (by omega), ip_eq 3 (by omega) (by omega), ip_eq 4 (by omega) (by omega)]
  simp only [Option.bind_some]
  refine Ev.bind aw_pref (Ev.bind aw_normal2 ?_)
  refine Ev.bind (f := fun k t => _) (aSame_ev [⟨ipA 1, ipA 3⟩] (by simp)) ?_
  simp only [if_true]
  refine Ev.bind (aValid_ev [⟨ipA 2, ipA 3⟩, ⟨ipA 1, ipA 1⟩] (by simp) (fun x hx => by
    rcases List.mem_cons.1 hx with rfl | hx
    · exact (ipR_RW 2 3 (by omega) (by omega) (by omega)).b
    · rw [List.mem_singleton.1 hx]; exact (ipR_RW 1 1 (by omega) (by omega) (by omega)).b)).1 ?_
  rw [aw_notvalid]
  exact Ev.now true
end Go.Proofs.Ytcgfpffgiimgmaa.Q
end

section
set_option linter.unusedVariables false
set_option linter.unusedSimpArgs false
namespace Go.Proofs.Ytcgfpffgiimgmaa.Q
open Go.RowKit Go.Proofs.YtcgfpffgiimgmaaW.PrintWords Go.Proofs.YtcgfpffgiimgmaaW.PrintLast Go.Proofs.YtcgfpffgiimgmaaW.PrintMore
def grow_Range.f (a1 : Int) : Option (List S66) := if 0 ≤ a1 ∧ a1 ≤ 2932031007402 then some [] else none
end Go.Proofs.Ytcgfpffgiimgmaa.Q
end

section
namespace Go.Proofs.Ytcgfpffgiimgmaa.Q
open Go.RowKit Go.Proofs.YtcgfpffgiimgmaaW.PrintWords Go.Proofs.YtcgfpffgiimgmaaW.PrintLast Go.Proofs.YtcgfpffgiimgmaaW.PrintMore
attribute [local go_sem] max2_int min2_int max_two min_two max_three min_three max_four min_four
set_option linter.unusedVariables false
set_option linter.unusedSimpArgs false
mutual
def slices_Concat_Range.l0 : Nat → List (List (S66)) → Int → List (List (S66)) → Int → Int → Option ((List (S66)))
  | 0, _, _, _, _, _ => none
  | k + 1, x0, x3, x9, x10, x11 => if x11 < x10 then (if 0 ≤ x11 then (if x11 < (x9.length : Int) then (if (wrap64 (x3 + ((rd_L7 x9 x11).length : Int))) < 0 then (none) else (slices_Concat_Range.l0 k x0 (wrap64 (x3 + ((rd_L7 x9 x11).length : Int))) x9 x10 (wrap64 (x11 + 1)))) else (none)) else (none)) else ((grow_Range.f x3).bind fun t922 => (slices_Concat_Range.l1 k t922 x0 (x0.length : Int) 0))
def slices_Concat_Range.l1 : Nat → List (S66) → List (List (S66)) → Int → Int → Option ((List (S66)))
  | 0, _, _, _, _ => none
  | k + 1, x6, x25, x26, x27 => if x27 < x26 then (if 0 ≤ x27 then (if x27 < (x25.length : Int) then (if x6.length + (rd_L7 x25 x27).length < 2932031007402 then (slices_Concat_Range.l1 k (x6 ++ (rd_L7 x25 x27)) x25 x26 (wrap64 (x27 + 1))) else (none)) else (none)) else (none)) else (some x6)
end
def slices_Concat_Range.f (k : Nat) (l0 : List (List (S66))) : Option ((List (S66))) := slices_Concat_Range.l0 k l0 0 l0 (l0.length : Int) 0
theorem slices_Concat_Range.mono_l : ∀ k, (∀ y0 y1 y2 y3 y4, LeO (slices_Concat_Range.l0 k y0 y1 y2 y3 y4) (slices_Concat_Range.l0 (k + 1) y0 y1 y2 y3 y4)) ∧ (∀ y0 y1 y2 y3, LeO (slices_Concat_Range.l1 k y0 y1 y2 y3) (slices_Concat_Range.l1 (k + 1) y0 y1 y2 y3))
  | 0 => ⟨fun _ _ _ _ _ r h => by simp [slices_Concat_Range.l0] at h, fun _ _ _ _ r h => by simp [slices_Concat_Range.l1] at h⟩
  | k + 1 => by
    obtain ⟨ih0, ih1⟩ := slices_Concat_Range.mono_l k
    refine ⟨?_, ?_⟩
    · intro y0 y1 y2 y3 y4
      unfold slices_Concat_Range.l0
      repeat' first
      | (with_reducible exact ih0 _ _ _ _ _)
      | (with_reducible exact ih1 _ _ _ _)
      | (with_reducible exact LeO.refl _)
      | (with_reducible exact LeO.none _)
      | (with_reducible refine LeO.ite ?_ ?_)
      | (with_reducible refine LeO.bind ?_ (fun _ => ?_))
      | exact ih0 _ _ _ _ _
      | exact ih1 _ _ _ _
      | exact LeO.none _
      | refine LeO.ite ?_ ?_
      | refine LeO.bind ?_ (fun _ => ?_)
    · intro y0 y1 y2 y3
      unfold slices_Concat_Range.l1
      repeat' first
      | (with_reducible exact ih0 _ _ _ _ _)
      | (with_reducible exact ih1 _ _ _ _)
      | (with_reducible exact LeO.refl _)
      | (with_reducible exact LeO.none _)
      | (with_reducible refine LeO.ite ?_ ?_)
      | (with_reducible refine LeO.bind ?_ (fun _ => ?_))
      | exact ih0 _ _ _ _ _
      | exact ih1 _ _ _ _
      | exact LeO.none _
      | refine LeO.ite ?_ ?_
      | refine LeO.bind ?_ (fun _ => ?_)
theorem slices_Concat_Range.mono : ∀ a0 k, LeO (slices_Concat_Range.f k a0) (slices_Concat_Range.f (k + 1) a0) := by
  intro a0 k
  obtain ⟨ih0, ih1⟩ := slices_Concat_Range.mono_l k
  unfold slices_Concat_Range.f
  repeat' first
      | (with_reducible exact ih0 _ _ _ _ _)
      | (with_reducible exact ih1 _ _ _ _)
      | (with_reducible exact LeO.refl _)
      | (with_reducible exact LeO.none _)
      | (with_reducible refine LeO.ite ?_ ?_)
      | (with_reducible refine LeO.bind ?_ (fun _ => ?_))
      | exact ih0 _ _ _ _ _
      | exact ih1 _ _ _ _
      | exact LeO.none _
      | refine LeO.ite ?_ ?_
      | refine LeO.bind ?_ (fun _ => ?_)
end Go.Proofs.Ytcgfpffgiimgmaa.Q
end

section
namespace Go.Proofs.Ytcgfpffgiimgmaa.Q
open Go.RowKit Go.Proofs.YtcgfpffgiimgmaaW.PrintWords Go.Proofs.YtcgfpffgiimgmaaW.PrintLast Go.Proofs.YtcgfpffgiimgmaaW.PrintMore
attribute [local go_sem] max2_int min2_int max_two min_two max_three min_three max_four min_four
set_option linter.unusedVariables false
set_option linter.unusedSimpArgs false
def addrset_Union.f (k : Nat) (l0 : List (S66)) (l1 : List (S66)) : Option ((List (S66))) := (slices_Concat_Range.f k (([l0, l1] : List (List (S66))))).bind fun t932 => ((addrset_Normal.f k t932).bind fun t935 => (some t935))
theorem addrset_Union.mono : ∀ a0 a1 k, LeO (addrset_Union.f k a0 a1) (addrset_Union.f (k + 1) a0 a1) := by
  intro a0 a1 k
  unfold addrset_Union.f
  repeat' first
      | (with_reducible exact addrset_Normal.mono _ _)
      | (with_reducible exact slices_Concat_Range.mono _ _)
      | (with_reducible exact LeO.refl _)
      | (with_reducible exact LeO.none _)
      | (with_reducible refine LeO.ite ?_ ?_)
      | (with_reducible refine LeO.bind ?_ (fun _ => ?_))
      | exact addrset_Normal.mono _ _
      | exact slices_Concat_Range.mono _ _
      | exact LeO.none _
      | refine LeO.ite ?_ ?_
      | refine LeO.bind ?_ (fun _ => ?_)
end Go.Proofs.Ytcgfpffgiimgmaa.Q
end

section
namespace Go.Proofs.Ytcgfpffgiimgmaa.Q
open Go.RowKit Go.Proofs.YtcgfpffgiimgmaaW.PrintWords Go.Proofs.YtcgfpffgiimgmaaW.PrintLast Go.Proofs.YtcgfpffgiimgmaaW.PrintMore
attribute [local go_sem] max2_int min2_int max_two min_two max_three min_three max_four min_four
set_option linter.unusedVariables false
set_option linter.unusedSimpArgs false
def intrusionref07_Union.f (k : Nat) (l0 : List (S66)) (l1 : List (S66)) : Option ((List (S66))) := if ([] : List (S66)).length + l0.length < 2932031007402 then ((some (([] : List (S66)) ++ l0 : List (S66))).bind fun y938 => (if y938.length + l1.length < 2932031007402 then ((intrusionref07_Normal.f k (y938 ++ l1)).bind fun t944 => (some t944)) else (none))) else (none)
theorem intrusionref07_Union.mono : ∀ a0 a1 k, LeO (intrusionref07_Union.f k a0 a1) (intrusionref07_Union.f (k + 1) a0 a1) := by
  intro a0 a1 k
  unfold intrusionref07_Union.f
  repeat' first
      | (with_reducible exact intrusionref07_Normal.mono _ _)
      | (with_reducible exact LeO.refl _)
      | (with_reducible exact LeO.none _)
      | (with_reducible refine LeO.ite ?_ ?_)
      | (with_reducible refine LeO.bind ?_ (fun _ => ?_))
      | exact intrusionref07_Normal.mono _ _
      | exact LeO.none _
      | refine LeO.ite ?_ ?_
      | refine LeO.bind ?_ (fun _ => ?_)
end Go.Proofs.Ytcgfpffgiimgmaa.Q
end

section
set_option linter.unusedVariables false
set_option linter.unusedSimpArgs false
namespace Go.Proofs.Ytcgfpffgiimgmaa.Q
open Go.RowKit Go.Proofs.YtcgfpffgiimgmaaW.PrintWords Go.Proofs.YtcgfpffgiimgmaaW.PrintLast Go.Proofs.YtcgfpffgiimgmaaW.PrintMore Go.Proofs.Ytcgfpffgiimgmaa.Canon
def inR (r : Rg) (n : Int) : Prop := av r.f0 ≤ n ∧ n ≤ av r.f1
theorem fam_of_both {r s : Rg} (hr : RW r) (hs : RW s) {n : Int} (h1 : inR r n) (h2 : inR s n) : r.f0.f0 = s.f0.f0 := by
  unfold inR at h1 h2
  rcases hr.num with ⟨_, _, n1 | n1⟩ <;> rcases hs.num with ⟨_, _, n2 | n2⟩
  · rw [n1.1, n2.1]
  · omega
  · omega
  · rw [n1.1, n2.1]
theorem both_spec {r s z : Rg} (hr : RW r) (hs : RW s) (hf : r.f0.f0 = s.f0.f0) (h0 : z.f0 = r.f0 ∨ z.f0 = s.f0) (h1 : z.f1 = r.f1 ∨ z.f1 = s.f1) (g0 : av r.f0 ≤ av z.f0 ∧ av s.f0 ≤ av z.f0) (g1 : av z.f1 ≤ av r.f1 ∧ av z.f1 ≤ av s.f1) : RB z ∧ ∀ n, (RW z ∧ inR z n) ↔ inR r n ∧ inR s n := by
  have b0 : AF z.f0 ∧ z.f0.f0 = r.f0.f0 := by
    rcases h0 with e | e
    · rw [e]; exact ⟨hr.1, rfl⟩
    · rw [e]; exact ⟨hs.1, hf.symm⟩
  have b1 : AF z.f1 ∧ z.f1.f0 = r.f0.f0 := by
    rcases h1 with e | e
    · rw [e]; exact ⟨hr.2.1, hr.2.2.1.symm⟩
    · rw [e]; exact ⟨hs.2.1, hs.2.2.1.symm.trans hf.symm⟩
  refine ⟨⟨b0.1.1, b1.1.1⟩, fun n => ?_⟩
  unfold inR
  constructor
  · rintro ⟨_, h2, h3⟩
    exact ⟨⟨by omega, by omega⟩, ⟨by omega, by omega⟩⟩
  · rintro ⟨⟨h2, h3⟩, ⟨h4, h5⟩⟩
    have e0 : av z.f0 ≤ n := by rcases h0 with e | e <;> rw [e] <;> assumption
    have e1 : n ≤ av z.f1 := by rcases h1 with e | e <;> rw [e] <;> assumption
    exact ⟨⟨b0.1, b1.1, b0.2.trans b1.2.symm, by omega⟩, e0, e1⟩
def bothQ (x y : Rg) : Rg := ⟨if av x.f0 < av y.f0 then y.f0 else x.f0, if av y.f1 < av x.f1 then y.f1 else x.f1⟩
theorem bothQ_spec {r s : Rg} (hr : RW r) (hs : RW s) (hf : r.f0.f0 = s.f0.f0) : RB (bothQ r s) ∧ ∀ n, (RW (bothQ r s) ∧ inR (bothQ r s) n) ↔ inR r n ∧ inR s n := by
  refine both_spec hr hs hf ?_ ?_ ?_ ?_
  · unfold bothQ; simp only; split
    · exact .inr rfl
    · exact .inl rfl
  · unfold bothQ; simp only; split
    · exact .inr rfl
    · exact .inl rfl
  · unfold bothQ; simp only; split <;> constructor <;> omega
  · unfold bothQ; simp only; split <;> constructor <;> omega
theorem ev_rInterRow (a b : List Rg) (ha : a.length < 1000) (hb : b.length < 1000) (qa : ∀ x ∈ a, RB x) (qb : ∀ x ∈ b, RB x) (i : Nat) (hi : i < a.length) {g : List Rg → List Rg → Prop}
    (next : ∀ (out : List Rg) (P : Int → Prop), ACan P out → out.length ≤ (i + 1) * b.length → ∃ r, Ev (fun k => intrusionref07_Intersect.l0 k a b out ((i + 1 : Nat) : Int)) r ∧ ACan (fun n => P n ∨ (ASM (a.drop (i + 1)) n ∧ ASM b n)) r ∧ r.length ≤ a.length * b.length) :
    ∀ (d j : Nat) (out : List Rg) (P : Int → Prop), b.length - j = d → j ≤ b.length → ACan P out → out.length ≤ i * b.length + j → ∃ r, Ev (fun k => intrusionref07_Intersect.l1 k a b out (i : Int) (j : Int)) r ∧ ACan (fun n => (P n ∨ (RW a[i] ∧ inR a[i] n ∧ ASM (b.drop j) n)) ∨ (ASM (a.drop (i + 1)) n ∧ ASM b n)) r ∧ r.length ≤ a.length * b.length := by
  intro d
  induction d with
  | zero =>
    intro j out P hd hj hc ho
    have : j = b.length := by omega
    subst this
    obtain ⟨r, r1, r2, r3⟩ := next out P hc (by rw [Nat.succ_mul]; exact ho)
    refine ⟨r, Ev.step (fun k => ?_) r1, r2.congr (fun n => ?_), r3⟩
    · simp only [intrusionref07_Intersect.l1]; rw [if_neg (by omega), wsucc i (by omega)]
    · rw [List.drop_length, asm_nil]; simp
  | succ d ih =>
    intro j out P hd hj hc ho
    have hlt : j < b.length := by omega
    have hx := qa a[i] (List.getElem_mem hi)
    have hy := qb b[j] (List.getElem_mem hlt)
    have hbig : i * b.length ≤ 1000 * 1000 := Nat.mul_le_mul (by omega) (by omega)
    have hskip : (¬ ∃ n, RW a[i] ∧ inR a[i] n ∧ RW b[j] ∧ inR b[j] n) → ∃ r, Ev (fun k => intrusionref07_Intersect.l1 k a b out (i : Int) ((j + 1 : Nat) : Int)) r ∧ ACan (fun n => (P n ∨ (RW a[i] ∧ inR a[i] n ∧ ASM (b.drop j) n)) ∨ (ASM (a.drop (i + 1)) n ∧ ASM b n)) r ∧ r.length ≤ a.length * b.length := fun hno => by
      obtain ⟨r, r1, r2, r3⟩ := ih (j + 1) out P (by omega) (by omega) hc (by omega)
      refine ⟨r, r1, r2.congr (fun n => or_congr_left (or_congr_right ?_)), r3⟩
      rw [dropc b j hlt, asm_cons]
      constructor
      · rintro ⟨h1, h2, h3⟩; exact ⟨h1, h2, .inr h3⟩
      · rintro ⟨h1, h2, h3 | h3⟩
        · exact absurd ⟨n, h1, h2, h3.1, h3.2⟩ hno
        · exact ⟨h1, h2, h3⟩
    have hj2t : ∀ {r : List Rg}, Ev (fun k => intrusionref07_Intersect.l1 k a b out (i : Int) ((j + 1 : Nat) : Int)) r → Ev (fun k => intrusionref07_Intersect.j2 k a b out (i : Int) (j : Int) true a[i].f0.f0 a[i].f0.f1 a[i].f0.f2 a[i].f1.f0 a[i].f1.f1 a[i].f1.f2 b[j].f0.f0 b[j].f0.f1 b[j].f0.f2 b[j].f1.f0 b[j].f1.f1 b[j].f1.f2) r := fun h => by
      refine Ev.step (fun k => ?_) h
      simp only [intrusionref07_Intersect.j2]
      rw [if_pos (by trivial), wsucc j (by omega)]
    by_cases s1 : RW a[i]
    · by_cases s2 : RW b[j]
      · by_cases hf : a[i].f0.f0 = b[j].f0.f0
        · obtain ⟨z1, z2⟩ := bothQ_spec s1 s2 hf
          have hj4 : ∃ r, Ev (fun k => intrusionref07_Intersect.j4 k a b out (i : Int) (j : Int) (bothQ a[i] b[j]).f0.f0 (bothQ a[i] b[j]).f0.f1 (bothQ a[i] b[j]).f0.f2 (bothQ a[i] b[j]).f1.f0 (bothQ a[i] b[j]).f1.f1 (bothQ a[i] b[j]).f1.f2) r ∧ ACan (fun n => (P n ∨ (RW a[i] ∧ inR a[i] n ∧ ASM (b.drop j) n)) ∨ (ASM (a.drop (i + 1)) n ∧ ASM b n)) r ∧ r.length ≤ a.length * b.length := by
            by_cases hz : RW (bothQ a[i] b[j])
            · obtain ⟨s, e1, e2, e3⟩ := radd_spec hc (bothQ a[i] b[j]) hz (by omega)
              obtain ⟨r, r1, r2, r3⟩ := ih (j + 1) s _ (by omega) (by omega) e2 (by omega)
              refine ⟨r, ?_, r2.congr (fun n => or_congr_left ?_), r3⟩
              · refine Ev.step (f := fun k => (intrusionref07_add.f k out (bothQ a[i] b[j]).f0.f0 (bothQ a[i] b[j]).f0.f1 (bothQ a[i] b[j]).f0.f2 (bothQ a[i] b[j]).f1.f0 (bothQ a[i] b[j]).f1.f1 (bothQ a[i] b[j]).f1.f2).bind fun t => intrusionref07_Intersect.l1 k a b t (i : Int) ((j + 1 : Nat) : Int)) (fun k => ?_) (Ev.bind e1 r1)
                simp only [intrusionref07_Intersect.j4]
                rw [rsome_eq _ z1, (some_iff z1).2 hz, wsucc j (by omega)]
                rfl
              · rw [dropc b j hlt, asm_cons, or_assoc]
                refine or_congr_right ?_
                have := z2 n
                constructor
                · rintro (h | ⟨h1, h2, h3⟩)
                  · obtain ⟨g1, g2⟩ := this.1 ⟨hz, h⟩
                    exact ⟨s1, g1, .inl ⟨s2, g2⟩⟩
                  · exact ⟨h1, h2, .inr h3⟩
                · rintro ⟨h1, h2, h3 | h3⟩
                  · exact .inl (this.2 ⟨h2, h3.2⟩).2
                  · exact .inr ⟨h1, h2, h3⟩
            · obtain ⟨r, r1, r2, r3⟩ := hskip (fun ⟨n, _, g1, _, g2⟩ => hz ((z2 n).2 ⟨g1, g2⟩).1)
              refine ⟨r, Ev.step (fun k => ?_) r1, r2, r3⟩
              simp only [intrusionref07_Intersect.j4]
              rw [rsome_eq _ z1, Bool.eq_false_iff.2 (fun h => hz ((some_iff z1).1 h)), wsucc j (by omega)]
              rfl
          obtain ⟨r, r1, r2, r3⟩ := hj4
          refine ⟨r, ?_, r2, r3⟩
          have hj3 : Ev (fun k => intrusionref07_Intersect.j3 k a b out (i : Int) (j : Int) (bothQ a[i] b[j]).f0.f0 (bothQ a[i] b[j]).f0.f1 (bothQ a[i] b[j]).f0.f2 a[i].f1.f0 a[i].f1.f1 a[i].f1.f2 b[j].f0.f0 b[j].f0.f1 b[j].f0.f2 b[j].f1.f0 b[j].f1.f1 b[j].f1.f2) r := by
            refine Ev.step (fun k => ?_) r1
            simp only [intrusionref07_Intersect.j3]
            rw [before_eq b[j].f1 a[i].f1 s2.2.1.1 s1.2.1.1]
            simp only [Option.bind_some, decide_eq_true_eq]
            unfold bothQ
            by_cases e : av b[j].f1 < av a[i].f1
            · simp only [if_pos e]
            · simp only [if_neg e]
          have hj2 : Ev (fun k => intrusionref07_Intersect.j2 k a b out (i : Int) (j : Int) false a[i].f0.f0 a[i].f0.f1 a[i].f0.f2 a[i].f1.f0 a[i].f1.f1 a[i].f1.f2 b[j].f0.f0 b[j].f0.f1 b[j].f0.f2 b[j].f1.f0 b[j].f1.f1 b[j].f1.f2) r := by
            refine Ev.step (fun k => ?_) hj3
            simp only [intrusionref07_Intersect.j2]
            rw [if_neg (by decide), before_eq a[i].f0 b[j].f0 s1.1.1 s2.1.1]
            simp only [Option.bind_some, decide_eq_true_eq]
            unfold bothQ
            by_cases e : av a[i].f0 < av b[j].f0
            · simp only [if_pos e]
            · simp only [if_neg e]
          refine Ev.step (fun k => ?_) hj2
          simp only [intrusionref07_Intersect.l1]
          rw [if_pos (by omega), if_pos (by omega), if_pos (by omega), if_pos (by omega), rd_getR a i hi, rd_getR b j hlt, rsome_eq _ hx, rsome_eq _ hy, (some_iff hx).2 s1, (some_iff hy).2 s2]
          simp only [Option.bind_some, if_true, hf, bne_self_eq_false]
        · obtain ⟨r, r1, r2, r3⟩ := hskip (fun ⟨n, _, g1, _, g2⟩ => hf (fam_of_both s1 s2 g1 g2))
          refine ⟨r, Ev.step (fun k => ?_) (hj2t r1), r2, r3⟩
          simp only [intrusionref07_Intersect.l1]
          rw [if_pos (by omega), if_pos (by omega), if_pos (by omega), if_pos (by omega), rd_getR a i hi, rd_getR b j hlt, rsome_eq _ hx, rsome_eq _ hy, (some_iff hx).2 s1, (some_iff hy).2 s2]
          simp only [Option.bind_some, if_true]
          rw [show (a[i].f0.f0 != b[j].f0.f0) = true from by simpa using hf]
      · obtain ⟨r, r1, r2, r3⟩ := hskip (fun ⟨n, _, _, g, _⟩ => s2 g)
        refine ⟨r, Ev.step (fun k => ?_) (hj2t r1), r2, r3⟩
        simp only [intrusionref07_Intersect.l1]
        rw [if_pos (by omega), if_pos (by omega), if_pos (by omega), if_pos (by omega), rd_getR a i hi, rd_getR b j hlt, rsome_eq _ hx, rsome_eq _ hy, (some_iff hx).2 s1, Bool.eq_false_iff.2 (fun h => s2 ((some_iff hy).1 h))]
        simp only [Option.bind_some, if_true]
        rfl
    · obtain ⟨r, r1, r2, r3⟩ := hskip (fun ⟨n, g, _⟩ => s1 g)
      refine ⟨r, Ev.step (fun k => ?_) (hj2t r1), r2, r3⟩
      simp only [intrusionref07_Intersect.l1]
      rw [if_pos (by omega), if_pos (by omega), if_pos (by omega), if_pos (by omega), rd_getR a i hi, rd_getR b j hlt, rsome_eq _ hx, Bool.eq_false_iff.2 (fun h => s1 ((some_iff hx).1 h))]
      rfl
theorem ev_rInter0 (a b : List Rg) (ha : a.length < 1000) (hb : b.length < 1000) (qa : ∀ x ∈ a, RB x) (qb : ∀ x ∈ b, RB x) : ∀ (d i : Nat) (out : List Rg) (P : Int → Prop), a.length - i = d → i ≤ a.length → ACan P out → out.length ≤ i * b.length → ∃ r, Ev (fun k => intrusionref07_Intersect.l0 k a b out (i : Int)) r ∧ ACan (fun n => P n ∨ (ASM (a.drop i) n ∧ ASM b n)) r ∧ r.length ≤ a.length * b.length := by
  intro d
  induction d with
  | zero =>
    intro i out P hd hi hc ho
    have : i = a.length := by omega
    subst this
    refine ⟨out, Ev.step (f := fun _ => some out) (fun k => ?_) (Ev.now out), hc.congr (fun n => ?_), ho⟩
    · simp only [intrusionref07_Intersect.l0]; rw [if_neg (by omega)]
    · rw [List.drop_length, asm_nil]; simp
  | succ d ih =>
    intro i out P hd hi hc ho
    have hlt : i < a.length := by omega
    obtain ⟨r, r1, r2, r3⟩ := ev_rInterRow a b ha hb qa qb i hlt (g := fun _ _ => True) (fun out P hc ho => ih (i + 1) out P (by omega) (by omega) hc ho) b.length 0 out P rfl (Nat.zero_le _) hc (by omega)
    refine ⟨r, Ev.step (fun k => ?_) r1, r2.congr (fun n => ?_), r3⟩
    · simp only [intrusionref07_Intersect.l0]; rw [if_pos (by omega)]; rfl
    · rw [List.drop_zero, dropc a i hlt, asm_cons, or_assoc]
      refine or_congr_right ?_
      unfold inR
      constructor
      · rintro (⟨h1, h2, h3⟩ | ⟨h1, h2⟩)
        · exact ⟨.inl ⟨h1, h2⟩, h3⟩
        · exact ⟨.inr h1, h2⟩
      · rintro ⟨h1 | h1, h2⟩
        · exact .inl ⟨h1.1, h1.2, h2⟩
        · exact .inr ⟨h1, h2⟩
theorem arInter_spec (a b : List Rg) (ha : a.length < 1000) (hb : b.length < 1000) (qa : ∀ x ∈ a, RB x) (qb : ∀ x ∈ b, RB x) : ∃ r, Ev (fun k => intrusionref07_Intersect.f k a b) r ∧ ACan (fun n => ASM a n ∧ ASM b n) r ∧ r.length ≤ a.length * b.length := by
  obtain ⟨r, r1, r2, r3⟩ := ev_rInter0 a b ha hb qa qb a.length 0 [] _ rfl (Nat.zero_le _) ACan.none (by simp)
  exact ⟨r, Ev.congr (fun k => rfl) r1, r2.congr (fun n => by simp), r3⟩
end Go.Proofs.Ytcgfpffgiimgmaa.Q
end

section
namespace Go.Proofs.Ytcgfpffgiimgmaa.Q
open Go.RowKit Go.Proofs.YtcgfpffgiimgmaaW.PrintWords Go.Proofs.YtcgfpffgiimgmaaW.PrintLast Go.Proofs.YtcgfpffgiimgmaaW.PrintMore
attribute [local go_sem] max2_int min2_int max_two min_two max_three min_three max_four min_four
set_option linter.unusedVariables false
set_option linter.unusedSimpArgs false
def addrset_Subset.f (k : Nat) (l0 : List (S66)) (l1 : List (S66)) : Option (Bool) := (addrset_Minus.f k l0 l1).bind fun t947 => (some ((t947.length : Int) == 0))
theorem addrset_Subset.mono : ∀ a0 a1 k, LeO (addrset_Subset.f k a0 a1) (addrset_Subset.f (k + 1) a0 a1) := by
  intro a0 a1 k
  unfold addrset_Subset.f
  repeat' first
      | (with_reducible exact addrset_Minus.mono _ _ _)
      | (with_reducible exact LeO.refl _)
      | (with_reducible exact LeO.none _)
      | (with_reducible refine LeO.ite ?_ ?_)
      | (with_reducible refine LeO.bind ?_ (fun _ => ?_))
      | exact addrset_Minus.mono _ _ _
      | exact LeO.none _
      | refine LeO.ite ?_ ?_
      | refine LeO.bind ?_ (fun _ => ?_)
end Go.Proofs.Ytcgfpffgiimgmaa.Q
end

section
namespace Go.Proofs.Ytcgfpffgiimgmaa.Q
open Go.RowKit Go.Proofs.YtcgfpffgiimgmaaW.PrintWords Go.Proofs.YtcgfpffgiimgmaaW.PrintLast Go.Proofs.YtcgfpffgiimgmaaW.PrintMore
attribute [local go_sem] max2_int min2_int max_two min_two max_three min_three max_four min_four
set_option linter.unusedVariables false
set_option linter.unusedSimpArgs false
def intrusionref07_Subset.f (k : Nat) (l0 : List (S66)) (l1 : List (S66)) : Option (Bool) := (intrusionref07_Minus.f k l0 l1).bind fun t950 => (some ((t950.length : Int) == 0))
theorem intrusionref07_Subset.mono : ∀ a0 a1 k, LeO (intrusionref07_Subset.f k a0 a1) (intrusionref07_Subset.f (k + 1) a0 a1) := by
  intro a0 a1 k
  unfold intrusionref07_Subset.f
  repeat' first
      | (with_reducible exact intrusionref07_Minus.mono _ _ _)
      | (with_reducible exact LeO.refl _)
      | (with_reducible exact LeO.none _)
      | (with_reducible refine LeO.ite ?_ ?_)
      | (with_reducible refine LeO.bind ?_ (fun _ => ?_))
      | exact intrusionref07_Minus.mono _ _ _
      | exact LeO.none _
      | refine LeO.ite ?_ ?_
      | refine LeO.bind ?_ (fun _ => ?_)
end Go.Proofs.Ytcgfpffgiimgmaa.Q
end

section
set_option linter.unusedVariables false
set_option linter.unusedSimpArgs false
namespace Go.Proofs.Ytcgfpffgiimgmaa.Q
open Go.RowKit Go.Proofs.YtcgfpffgiimgmaaW.PrintWords Go.Proofs.YtcgfpffgiimgmaaW.PrintLast Go.Proofs.YtcgfpffgiimgmaaW.PrintMore Go.Proofs.Ytcgfpffgiimgmaa.Canon
def Sep : Int → List Rg → Prop
  | _, [] => True
  | lo, x :: t => lo ≤ av x.f0 ∧ RW x ∧ Sep (av x.f1 + 1) t
theorem Sep.mono {lo lo' : Int} (h : lo' ≤ lo) : ∀ {l : List Rg}, Sep lo l → Sep lo' l
  | [], _ => trivial
  | x :: t, c => ⟨Int.le_trans h c.1, c.2⟩
theorem Sep.rw : ∀ {l : List Rg} {lo : Int}, Sep lo l → ∀ x ∈ l, RW x ∧ lo ≤ av x.f0
  | [], _, _, x, hx => by simp at hx
  | y :: t, lo, c, x, hx => by
    rcases List.mem_cons.1 hx with rfl | hx
    · exact ⟨c.2.1, c.1⟩
    · obtain ⟨h1, h2⟩ := Sep.rw c.2.2 x hx
      have := c.1
      have := c.2.1.2.2.2
      exact ⟨h1, by omega⟩
theorem sep_append : ∀ (a b : List Rg) (lo hi : Int), Sep lo a → (∀ x ∈ a, av x.f1 < hi) → lo ≤ hi → Sep hi b → Sep lo (a ++ b)
  | [], b, lo, hi, _, _, hle, hb => hb.mono hle
  | x :: a, b, lo, hi, ha, h, hle, hb => ⟨ha.1, ha.2.1, sep_append a b _ hi ha.2.2 (fun z hz => h z (List.mem_cons_of_mem _ hz)) (by have := h x (List.mem_cons_self ..); omega) hb⟩
theorem sep_of_can : ∀ {l : List Rg} {lo : Int}, CanFrom lo (l.map rsp) → (∀ x ∈ l, RW x) → Sep lo l
  | [], _, _, _ => trivial
  | x :: t, lo, c, h => ⟨c.1, h x (List.mem_cons_self ..), (sep_of_can c.2.2 (fun z hz => h z (List.mem_cons_of_mem _ hz))).mono (by simp only [rsp]; omega)⟩
def woR (r s : Rg) : List Rg :=
  if av s.f1 < av r.f0 ∨ av r.f1 < av s.f0 then [r] else (if av r.f0 < av s.f0 then [(⟨r.f0, prevA s.f0⟩ : Rg)] else []) ++ (if av s.f1 < av r.f1 then [(⟨nextA s.f1, r.f1⟩ : Rg)] else [])
theorem fam_meet {r s : Rg} (hr : RW r) (hs : RW s) (h1 : av r.f0 ≤ av s.f1) (h2 : av s.f0 ≤ av r.f1) : r.f0.f0 = s.f0.f0 := by
  rcases hr.num with ⟨_, _, n1 | n1⟩ <;> rcases hs.num with ⟨_, _, n2 | n2⟩
  · rw [n1.1, n2.1]
  · omega
  · omega
  · rw [n1.1, n2.1]
theorem not_first {r s : Rg} (hr : RW r) (hs : RW s) (hf : r.f0.f0 = s.f0.f0) (h : av r.f0 < av s.f0) : ¬ (s.f0.f1 = 0 ∧ s.f0.f2 = 0) := by
  rintro ⟨e1, e2⟩
  have h1 := hr.1.1
  unfold AW at h1
  unfold av at h
  rw [e1, e2, hf] at h
  omega
theorem not_last {r s : Rg} (hr : RW r) (hs : RW s) (hf : r.f0.f0 = s.f0.f0) (h : av s.f1 < av r.f1) : s.f1 ≠ topA s.f1.f0 := by
  intro e
  have h1 := topA_max hr.2.1
  rw [← hr.2.2.1, hf, hs.2.2.1, ← e] at h1
  omega
theorem woR_spec {r s : Rg} (hr : RW r) (hs : RW s) : Sep (av r.f0) (woR r s) ∧ (∀ x ∈ woR r s, av x.f1 ≤ av r.f1) ∧ (∀ n, ASM (woR r s) n ↔ inR r n ∧ ¬ inR s n) ∧ (woR r s).length ≤ (if av r.f0 < av s.f0 ∧ av s.f1 < av r.f1 then 2 else 1) := by
  have r2 := hr.2.2.2
  have s2 := hs.2.2.2
  unfold woR
  by_cases h0 : av s.f1 < av r.f0 ∨ av r.f1 < av s.f0
  · rw [if_pos h0]
    refine ⟨⟨Int.le_refl _, hr, trivial⟩, ?_, fun n => ?_, ?_⟩
    · intro x hx; rw [List.mem_singleton.1 hx]; exact Int.le_refl _
    · rw [asm_cons, asm_nil, or_false]
      unfold inR
      constructor
      · rintro ⟨_, h⟩; exact ⟨h, fun g => by omega⟩
      · rintro ⟨h, _⟩; exact ⟨hr, h⟩
    · simp only [List.length_singleton]; split <;> omega
  · rw [if_neg h0]
    have hf := fam_meet hr hs (by omega) (by omega)
    have hp : av r.f0 < av s.f0 → RW ⟨r.f0, prevA s.f0⟩ ∧ av (prevA s.f0) = av s.f0 - 1 := fun h => by
      obtain ⟨p1, p2, p3⟩ := prevA_spec hs.1 (not_first hr hs hf h)
      exact ⟨⟨hr.1, p1, hf.trans p2.symm, by show av r.f0 ≤ av (prevA s.f0); omega⟩, p3⟩
    have hn : av s.f1 < av r.f1 → RW ⟨nextA s.f1, r.f1⟩ ∧ av (nextA s.f1) = av s.f1 + 1 := fun h => by
      obtain ⟨p1, p2, p3⟩ := nextA_spec hs.2.1 (not_last hr hs hf h)
      exact ⟨⟨p1, hr.2.1, p2.trans (hs.2.2.1.symm.trans (hf.symm.trans hr.2.2.1)), by show av (nextA s.f1) ≤ av r.f1; omega⟩, p3⟩
    by_cases h1 : av r.f0 < av s.f0
    · obtain ⟨p1, p2⟩ := hp h1
      by_cases h2 : av s.f1 < av r.f1
      · obtain ⟨n1, n2⟩ := hn h2
        rw [if_pos h1, if_pos h2, if_pos ⟨h1, h2⟩]
        refine ⟨⟨Int.le_refl _, p1, by show av (prevA s.f0) + 1 ≤ av (nextA s.f1); omega, n1, trivial⟩, ?_, fun n => ?_, by simp⟩
        · intro x hx
          simp only [List.cons_append, List.nil_append, List.mem_cons, List.not_mem_nil, or_false] at hx
          rcases hx with rfl | rfl
          · show av (prevA s.f0) ≤ _; omega
          · exact Int.le_refl _
        · rw [List.cons_append, List.nil_append, asm_cons, asm_cons, asm_nil, or_false]
          unfold inR
          constructor
          · rintro (⟨_, g1, g2⟩ | ⟨_, g1, g2⟩)
            · have g2 : n ≤ av (prevA s.f0) := g2
              have g1 : av r.f0 ≤ n := g1
              exact ⟨by omega, by omega⟩
            · have g1 : av (nextA s.f1) ≤ n := g1
              have g2 : n ≤ av r.f1 := g2
              exact ⟨by omega, by omega⟩
          · rintro ⟨⟨g1, g2⟩, g3⟩
            by_cases g4 : n < av s.f0
            · exact .inl ⟨p1, g1, by show n ≤ av (prevA s.f0); omega⟩
            · exact .inr ⟨n1, by show av (nextA s.f1) ≤ n; omega, g2⟩
      · rw [if_pos h1, if_neg h2, if_neg (fun g => h2 g.2)]
        refine ⟨⟨Int.le_refl _, p1, trivial⟩, ?_, fun n => ?_, by simp⟩
        · intro x hx
          simp only [List.append_nil, List.mem_singleton] at hx
          rw [hx]
          show av (prevA s.f0) ≤ _; omega
        · rw [List.append_nil, asm_cons, asm_nil, or_false]
          unfold inR
          constructor
          · rintro ⟨_, g1, g2⟩
            have g2 : n ≤ av (prevA s.f0) := g2
            have g1 : av r.f0 ≤ n := g1
            exact ⟨by omega, by omega⟩
          · rintro ⟨⟨g1, g2⟩, g3⟩
            exact ⟨p1, g1, by show n ≤ av (prevA s.f0); omega⟩
    · by_cases h2 : av s.f1 < av r.f1
      · obtain ⟨n1, n2⟩ := hn h2
        rw [if_neg h1, if_pos h2, if_neg (fun g => h1 g.1)]
        refine ⟨⟨by show av r.f0 ≤ av (nextA s.f1); omega, n1, trivial⟩, ?_, fun n => ?_, by simp⟩
        · intro x hx
          simp only [List.nil_append, List.mem_singleton] at hx
          rw [hx]
          exact Int.le_refl _
        · rw [List.nil_append, asm_cons, asm_nil, or_false]
          unfold inR
          constructor
          · rintro ⟨_, g1, g2⟩
            have g1 : av (nextA s.f1) ≤ n := g1
            have g2 : n ≤ av r.f1 := g2
            exact ⟨by omega, by omega⟩
          · rintro ⟨⟨g1, g2⟩, g3⟩
            exact ⟨n1, by show av (nextA s.f1) ≤ n; omega, g2⟩
      · rw [if_neg h1, if_neg h2, if_neg (fun g => h1 g.1)]
        refine ⟨trivial, by simp, fun n => ?_, by simp⟩
        rw [List.nil_append, asm_nil]
        unfold inR
        exact ⟨False.elim, fun g => by omega⟩
theorem ev_without {r s : Rg} (hr : RW r) (hs : RW s) : Ev (fun k => addrset_without.f k r.f0.f0 r.f0.f1 r.f0.f2 r.f1.f0 r.f1.f1 r.f1.f2 s.f0.f0 s.f0.f1 s.f0.f2 s.f1.f0 s.f1.f1 s.f1.f2) (woR r s) := by
  have r2 := hr.2.2.2
  have s2 := hs.2.2.2
  have hj0t : (av s.f1 < av r.f0 ∨ av r.f1 < av s.f0) → Ev (fun k => addrset_without.j0 k true r.f0.f0 r.f0.f1 r.f0.f2 r.f1.f0 r.f1.f1 r.f1.f2 s.f0.f0 s.f0.f1 s.f0.f2 s.f1.f0 s.f1.f1 s.f1.f2) (woR r s) := fun h => by
    unfold woR
    rw [if_pos h]
    refine Ev.step (f := fun _ => some [r]) (fun k => ?_) (Ev.now _)
    simp only [addrset_without.j0]
    rw [if_pos (by trivial)]
  unfold addrset_without.f
  by_cases hf : r.f0.f0 = s.f0.f0
  · simp only [hf, bne_self_eq_false, Bool.false_eq_true, if_false]
    have e1 := cmp_f s.f1 r.f0
    have e2 := cmp_f r.f1 s.f0
    have c1 := cmp_lt' hs.2.1.1 hr.1.1
    have c2 := cmp_lt' hr.2.1.1 hs.1.1
    rw [hf] at e1
    rw [e1]
    simp only [Option.bind_some]
    rw [hf] at hj0t
    by_cases d1 : av s.f1 < av r.f0
    · exact Ev.congr (fun k => by rw [if_pos (c1.2 d1)]) (hj0t (.inl d1))
    · refine Ev.congr (f := fun k => addrset_without.j0 k (decide (cmpA r.f1 s.f0 < 0)) s.f0.f0 r.f0.f1 r.f0.f2 r.f1.f0 r.f1.f1 r.f1.f2 s.f0.f0 s.f0.f1 s.f0.f2 s.f1.f0 s.f1.f1 s.f1.f2) (fun k => by rw [if_neg (fun g => d1 (c1.1 g)), e2]; rfl) ?_
      by_cases d2 : av r.f1 < av s.f0
      · rw [decide_eq_true (c2.2 d2)]
        exact hj0t (.inr d2)
      · rw [decide_eq_false (fun g => d2 (c2.1 g))]
        have d3 : ¬ (av s.f1 < av r.f0 ∨ av r.f1 < av s.f0) := by omega
        unfold woR
        rw [if_neg d3]
        have c3 := cmp_lt' hr.1.1 hs.1.1
        have c4 := cmp_lt' hs.2.1.1 hr.2.1.1
        have hj1 : ∀ out : List Rg, out.length ≤ 1 → Ev (fun k => addrset_without.j1 k out s.f0.f0 r.f0.f1 r.f0.f2 r.f1.f0 r.f1.f1 r.f1.f2 s.f0.f0 s.f0.f1 s.f0.f2 s.f1.f0 s.f1.f1 s.f1.f2) (out ++ (if av s.f1 < av r.f1 then [(⟨nextA s.f1, r.f1⟩ : Rg)] else [])) := fun out ho => by
          refine Ev.step (f := fun _ => some (out ++ (if av s.f1 < av r.f1 then [(⟨nextA s.f1, r.f1⟩ : Rg)] else []))) (fun k => ?_) (Ev.now _)
          simp only [addrset_without.j1]
          rw [cmp_f s.f1 r.f1]
          simp only [Option.bind_some]
          by_cases h2 : av s.f1 < av r.f1
          · rw [if_pos (c4.2 h2), if_pos h2, next_eq s.f1 hs.2.1, if_neg (not_last hr hs hf h2)]
            simp only [Option.bind_some]
            rw [if_pos (by omega)]
          · rw [if_neg (fun g => h2 (c4.1 g)), if_neg h2, List.append_nil]
        by_cases h1 : av r.f0 < av s.f0
        · rw [if_pos h1]
          refine Ev.step (fun k => ?_) (hj1 [(⟨r.f0, prevA s.f0⟩ : Rg)] (by simp))
          simp only [addrset_without.j0]
          have e3 := cmp_f r.f0 s.f0
          rw [hf] at e3
          rw [if_neg (by decide), e3]
          simp only [Option.bind_some]
          rw [if_pos (c3.2 h1), prev_eq s.f0 (not_first hr hs hf h1)]
          simp only [Option.bind_some]
          rw [if_pos (by simp), ← hf]
          rfl
        · rw [if_neg h1]
          refine Ev.step (fun k => ?_) (hj1 [] (by simp))
          simp only [addrset_without.j0]
          have e3 := cmp_f r.f0 s.f0
          rw [hf] at e3
          rw [if_neg (by decide), e3]
          simp only [Option.bind_some]
          rw [if_neg (fun g => h1 (c3.1 g))]
  · refine Ev.congr (fun k => by rw [if_pos (by simpa using hf)]) (hj0t ?_)
    have h3 := fun g1 g2 => hf (fam_meet hr hs g1 g2)
    by_cases g1 : av r.f0 ≤ av s.f1
    · by_cases g2 : av s.f0 ≤ av r.f1
      · exact (h3 g1 g2).elim
      · exact .inr (by omega)
    · exact .inl (by omega)
def woAll (s : Rg) (l : List Rg) : List Rg := (l.map fun r => woR r s).flatten
theorem woAll_cons (s r : Rg) (t : List Rg) : woAll s (r :: t) = woR r s ++ woAll s t := by simp [woAll]
theorem woAll_spec {s : Rg} (hs : RW s) : ∀ {l : List Rg} {lo : Int}, Sep lo l → Sep lo (woAll s l) ∧ (∀ n, ASM (woAll s l) n ↔ ASM l n ∧ ¬ inR s n) ∧ (woAll s l).length ≤ l.length + (if lo ≤ av s.f0 then 1 else 0)
  | [], lo, _ => ⟨trivial, fun n => by simp [woAll, asm_nil], by simp [woAll]⟩
  | r :: t, lo, c => by
    obtain ⟨c1, hr, c3⟩ := c
    obtain ⟨w1, w2, w3, w4⟩ := woR_spec hr hs
    obtain ⟨i1, i2, i3⟩ := woAll_spec hs c3
    have r2 := hr.2.2.2
    rw [woAll_cons]
    refine ⟨?_, fun n => ?_, ?_⟩
    · exact sep_append _ _ lo (av r.f1 + 1) (w1.mono c1) (fun x hx => by have := w2 x hx; omega) (by omega) i1
    · rw [asm_append, w3, i2, asm_cons]
      constructor
      · rintro (⟨h1, h2⟩ | ⟨h1, h2⟩)
        · exact ⟨.inl ⟨hr, h1⟩, h2⟩
        · exact ⟨.inr h1, h2⟩
      · rintro ⟨h1 | h1, h2⟩
        · exact .inl ⟨h1.2, h2⟩
        · exact .inr ⟨h1, h2⟩
    · have s2 := hs.2.2.2
      rw [List.length_append, List.length_cons]
      split at w4
      · rename_i g
        rw [if_neg (by omega)] at i3
        rw [if_pos (by omega)]
        omega
      · split at i3
        · rw [if_pos (by omega)]; omega
        · split <;> omega
theorem ev_minus1 (t : List Rg) (s : Rg) (hs : RW s) (tl : Int) (i : Int) {r : List Rg} (L : List Rg) (hl : L.length ≤ 1000000) (hL : ∀ x ∈ L, RW x)
    (next : Ev (fun k => addrset_Minus.l0 k (woAll s L) t tl (wrap64 (i + 1))) r) : ∀ (d j : Nat) (out : List Rg), L.length - j = d → j ≤ L.length → out ++ woAll s (L.drop j) = woAll s L → out.length ≤ 2 * j →
    Ev (fun k => addrset_Minus.l1 k out t tl i L (L.length : Int) (j : Int) s.f0.f0 s.f0.f1 s.f0.f2 s.f1.f0 s.f1.f1 s.f1.f2) r := by
  intro d
  induction d with
  | zero =>
    intro j out hd hj ho _
    have : j = L.length := by omega
    subst this
    have e : out = woAll s L := by rw [← ho, List.drop_length]; simp [woAll]
    subst e
    refine Ev.step (fun k => ?_) next
    simp only [addrset_Minus.l1]; rw [if_neg (by omega)]
  | succ d ih =>
    intro j out hd hj ho hle
    have hlt : j < L.length := by omega
    have hr := hL L[j] (List.getElem_mem hlt)
    have hw := (woR_spec hr hs).2.2.2
    have hw2 : (woR L[j] s).length ≤ 2 := by split at hw <;> omega
    rw [dropc L j hlt, woAll_cons, ← List.append_assoc] at ho
    have h2 := ih (j + 1) (out ++ woR L[j] s) (by omega) (by omega) ho (by rw [List.length_append]; omega)
    refine Ev.step (f := fun k => (addrset_without.f k L[j].f0.f0 L[j].f0.f1 L[j].f0.f2 L[j].f1.f0 L[j].f1.f1 L[j].f1.f2 s.f0.f0 s.f0.f1 s.f0.f2 s.f1.f0 s.f1.f1 s.f1.f2).bind fun w => if out.length + w.length < 2932031007402 then addrset_Minus.l1 k (out ++ w) t tl i L (L.length : Int) ((j + 1 : Nat) : Int) s.f0.f0 s.f0.f1 s.f0.f2 s.f1.f0 s.f1.f1 s.f1.f2 else none) (fun k => ?_) (Ev.bind (ev_without hr hs) ?_)
    · simp only [addrset_Minus.l1]
      rw [if_pos (by omega), if_pos (by omega), if_pos (by omega), rd_getR L j hlt, wsucc j (by omega)]
    · refine Ev.congr (fun k => ?_) h2
      rw [if_pos (by omega)]
theorem ev_minus0 (t : List Rg) (ht : t.length ≤ 100000) (hT : ∀ x ∈ t, RW x) : ∀ (d i : Nat) (L : List Rg), t.length - i = d → i ≤ t.length → Sep 0 L → L.length + (t.length - i) ≤ 900000 → ∃ r, Ev (fun k => addrset_Minus.l0 k L t (t.length : Int) (i : Int)) r ∧ ACan (fun n => ASM L n ∧ ¬ ASM (t.drop i) n) r ∧ r.length ≤ L.length + (t.length - i) := by
  intro d
  induction d with
  | zero =>
    intro i L hd hi hs hl
    have : i = t.length := by omega
    subst this
    obtain ⟨r, r1, r2, r3⟩ := aNormal_spec L (by omega) (fun x hx => (hs.rw x hx).1.b)
    refine ⟨r, Ev.step (f := fun k => (addrset_Normal.f k L).bind fun t => some t) (fun k => ?_) (Ev.bind r1 (Ev.now _)), r2.congr (fun n => ?_), by omega⟩
    · simp only [addrset_Minus.l0]; rw [if_neg (by omega)]
    · rw [List.drop_length, asm_nil]; simp
  | succ d ih =>
    intro i L hd hi hs hl
    have hlt : i < t.length := by omega
    have hsw := hT t[i] (List.getElem_mem hlt)
    obtain ⟨w1, w2, w3⟩ := woAll_spec hsw hs
    have w3' : (woAll t[i] L).length ≤ L.length + 1 := by split at w3 <;> omega
    obtain ⟨r, r1, r2, r3⟩ := ih (i + 1) (woAll t[i] L) (by omega) (by omega) w1 (by omega)
    refine ⟨r, ?_, r2.congr (fun n => ?_), by omega⟩
    · have h := ev_minus1 t t[i] hsw (t.length : Int) (i : Int) L (by omega) (fun x hx => (hs.rw x hx).1) (by rw [wsucc i (by omega)]; exact r1) L.length 0 [] (by omega) (Nat.zero_le _) (by simp) (by simp)
      refine Ev.step (fun k => ?_) h
      simp only [addrset_Minus.l0]
      rw [if_pos (by omega), if_pos (by omega), if_pos (by omega), rd_getR t i hlt]
      rfl
    · rw [w2, dropc t i hlt, asm_cons]
      unfold inR
      constructor
      · rintro ⟨⟨h1, h2⟩, h3⟩
        exact ⟨h1, fun g => g.elim (fun g => h2 g.2) h3⟩
      · rintro ⟨h1, h2⟩
        exact ⟨⟨h1, fun g => h2 (.inl ⟨hsw, g⟩)⟩, fun g => h2 (.inr g)⟩
theorem aMinus_spec (a b : List Rg) (ha : a.length < 10000) (hb : b.length < 10000) (qa : ∀ x ∈ a, RB x) (qb : ∀ x ∈ b, RB x) : ∃ r, Ev (fun k => addrset_Minus.f k a b) r ∧ ACan (fun n => ASM a n ∧ ¬ ASM b n) r ∧ r.length ≤ a.length + b.length := by
  obtain ⟨x, x1, x2, x3⟩ := aNormal_spec a (by omega) qa
  obtain ⟨y, y1, y2, y3⟩ := aNormal_spec b (by omega) qb
  obtain ⟨r, r1, r2, r3⟩ := ev_minus0 y (by omega) y2.2.1 y.length 0 x (by omega) (Nat.zero_le _) (sep_of_can x2.1 x2.2.1) (by omega)
  refine ⟨r, ?_, r2.congr (fun n => ?_), by omega⟩
  · refine Ev.bind (f := fun k t => (addrset_Normal.f k b).bind fun t' => addrset_Minus.l0 k t t' (t'.length : Int) 0) x1 ?_
    exact Ev.bind (f := fun k t' => addrset_Minus.l0 k x t' (t'.length : Int) 0) y1 r1
  · rw [x2.2.2, List.drop_zero, y2.2.2]
def GapP (S : List Rg) (lo hi : Int) (n : Int) : Prop := lo ≤ n ∧ n ≤ hi ∧ ¬ ASM S n
def Ext (S : List Rg) (fr : Ad) (f : Bool) (ext : List Rg) : Prop := CanFrom (av fr) (ext.map rsp) ∧ (∀ x ∈ ext, RW x) ∧ (∀ n, ASM ext n ↔ GapP S (av fr) (av (topA f)) n)
theorem can_cons {x : Rg} {t : List Rg} {lo : Int} (h1 : lo ≤ av x.f0) (h2 : av x.f0 ≤ av x.f1) (h3 : CanFrom (av x.f1 + 2) (t.map rsp)) : CanFrom lo ((x :: t).map rsp) := ⟨h1, h2, h3⟩
theorem ev_rcomp_over (all S : List Rg) (fi : Nat) (f : Bool) {r : List Rg} (out : List Rg) (hS : S.length < 1000) (hall : all.length = 2) (hfi : fi < 2) (next : Ev (fun k => intrusionref07_Complement.l0 k out all S ((fi + 1 : Nat) : Int)) r) :
    ∀ (d i : Nat) (a : Ad), a.f0 = f → S.length - i = d → i ≤ S.length → (∀ x ∈ S.drop i, x.f0.f0 ≠ f) → Ev (fun k => intrusionref07_Complement.l1 k out all S (fi : Int) true (i : Int) a.f0 a.f1 a.f2) r := by
  intro d
  induction d with
  | zero =>
    intro i a hf hd hi _
    have : i = S.length := by omega
    subst this
    refine Ev.step (fun k => ?_) next
    simp only [intrusionref07_Complement.l1]
    rw [if_neg (by omega), if_pos (by trivial), wsucc fi (by omega)]
  | succ d ih =>
    intro i a hf hd hi hno
    have hlt : i < S.length := by omega
    rw [dropc S i hlt] at hno
    have hx := hno S[i] (List.mem_cons_self ..)
    refine Ev.step (fun k => ?_) (ih (i + 1) a hf (by omega) (by omega) (fun x hx => hno x (List.mem_cons_of_mem _ hx)))
    simp only [intrusionref07_Complement.l1]
    rw [if_pos (by omega), if_pos (by omega), rd_getR S i hlt, if_pos (by rw [hf]; simpa using hx), wsucc i (by omega)]
theorem ev_rcomp4 (all S : List Rg) (fi : Nat) (f : Bool) (hS : S.length < 1000) (hR : ∀ x ∈ S, RW x) (hall : all.length = 2) (hfi : fi < 2) (htop : (rd_T66 all (fi : Int)).f1 = topA f) (res : List Rg → List Rg) (M : Nat)
    (next : ∀ out, out.length ≤ M → Ev (fun k => intrusionref07_Complement.l0 k out all S ((fi + 1 : Nat) : Int)) (res out)) :
    ∀ (d i : Nat) (a : Ad) (out : List Rg) (c : Int), AF a → a.f0 = f → S.length - i = d → i ≤ S.length → CanFrom c ((S.drop i).map rsp) → (∀ x ∈ S.drop i, x.f0.f0 = f → av a ≤ av x.f0) → out.length + (S.length - i) + 1 ≤ M → M ≤ 3000 →
    ∃ ext, Ev (fun k => intrusionref07_Complement.l1 k out all S (fi : Int) false (i : Int) a.f0 a.f1 a.f2) (res (out ++ ext)) ∧ Ext (S.drop i) a f ext ∧ ext.length ≤ S.length - i + 1 := by
  intro d
  induction d with
  | zero =>
    intro i a out c ha hf hd hi hc hge ho hM
    have : i = S.length := by omega
    subst this
    have htm := topA_max ha
    rw [hf] at htm
    have hw : RW ⟨a, topA f⟩ := ⟨ha, topA_AF f, by show a.f0 = (topA f).f0; rw [topA_f0]; exact hf, htm⟩
    refine ⟨[⟨a, topA f⟩], ?_, ⟨⟨Int.le_refl _, htm, trivial⟩, fun x hx => by rw [List.mem_singleton.1 hx]; exact hw, fun n => ?_⟩, by simp⟩
    · refine Ev.step (fun k => ?_) (next (out ++ [⟨a, topA f⟩]) (by simp; omega))
      simp only [intrusionref07_Complement.l1]
      rw [if_neg (by omega), if_neg (by decide), if_pos (by omega), if_pos (by omega), if_pos (by omega), htop, wsucc fi (by omega)]
    · rw [asm_cons, asm_nil, or_false, List.drop_length]
      unfold GapP
      rw [asm_nil]
      constructor
      · rintro ⟨_, h1, h2⟩; exact ⟨h1, h2, fun h => h⟩
      · rintro ⟨h1, h2, _⟩; exact ⟨hw, h1, h2⟩
  | succ d ih =>
    intro i a out c ha hf hd hi hc hge ho hM
    have hlt : i < S.length := by omega
    have hx := hR S[i] (List.getElem_mem hlt)
    rw [dropc S i hlt] at hge ⊢
    rw [dropc S i hlt, List.map_cons] at hc
    obtain ⟨c1, c2, c3⟩ := hc
    have hRd : ∀ x ∈ S.drop (i + 1), RW x := fun x hx => hR x (List.mem_of_mem_drop hx)
    have hsep := sep_of_can c3 hRd
    have hgt : ∀ x ∈ S.drop (i + 1), av S[i].f1 + 2 ≤ av x.f0 := fun x hx => by have := (hsep.rw x hx).2; simpa [rsp] using this
    have htm := topA_max ha
    rw [hf] at htm
    by_cases hfam : S[i].f0.f0 = f
    · have hax := hge S[i] (List.mem_cons_self ..) hfam
      have hxt : av S[i].f1 ≤ av (topA f) := by have := topA_max hx.2.1; rw [← hx.2.2.1, hfam] at this; exact this
      have x2 := hx.2.2.2
      have hj2 : ∀ out', out'.length + (S.length - (i + 1)) + 1 ≤ M → ∃ ext, Ev (fun k => intrusionref07_Complement.j2 k out' all S (fi : Int) (i : Int)) (res (out' ++ ext)) ∧ CanFrom (av S[i].f1 + 1) (ext.map rsp) ∧ (∀ x ∈ ext, RW x) ∧ (∀ n, ASM ext n ↔ GapP (S.drop (i + 1)) (av S[i].f1 + 1) (av (topA f)) n) ∧ ext.length ≤ S.length - (i + 1) + 1 := fun out' ho' => by
        by_cases hlast : S[i].f1 = topA S[i].f1.f0
        · have hft : S[i].f1.f0 = f := by rw [← hx.2.2.1]; exact hfam
          refine ⟨[], ?_, trivial, by simp, fun n => ?_, by simp⟩
          · have hov := ev_rcomp_over all S fi f out' hS hall hfi (next out' (by omega)) (S.length - (i + 1)) (i + 1) (topA f) (topA_f0 f) rfl (by omega) (fun x hxm hxf => by
              have h1 := hgt x hxm
              have h2 := topA_max (hRd x hxm).1
              rw [hxf] at h2
              rw [hft] at hlast
              rw [hlast] at h1
              omega)
            rw [List.append_nil]
            refine Ev.step (fun k => ?_) hov
            simp only [intrusionref07_Complement.j2]
            rw [if_pos (by omega), if_pos (by omega), rd_getR S i hlt, last_eq _ hx.2.1, after_eq, decide_eq_true hlast]
            simp only [Option.bind_some, if_true]
            rw [if_pos (by omega), if_pos (by omega), htop, wsucc i (by omega)]
          · rw [asm_nil]
            unfold GapP
            refine ⟨False.elim, fun ⟨h1, h2, _⟩ => ?_⟩
            rw [hft] at hlast
            rw [hlast] at h1
            omega
        · obtain ⟨n1, n2, n3⟩ := nextA_spec hx.2.1 hlast
          have hnf : (nextA S[i].f1).f0 = f := n2.trans (hx.2.2.1.symm.trans hfam)
          obtain ⟨ext, e1, ⟨e2, e3, e4⟩, e5⟩ := ih (i + 1) (nextA S[i].f1) out' _ n1 hnf (by omega) (by omega) c3 (fun x hxm _ => by have := hgt x hxm; omega) (by omega) hM
          rw [n3] at e2 e4
          refine ⟨ext, ?_, e2, e3, e4, e5⟩
          refine Ev.step (fun k => ?_) e1
          simp only [intrusionref07_Complement.j2]
          rw [if_pos (by omega), if_pos (by omega), rd_getR S i hlt, last_eq _ hx.2.1, after_eq, decide_eq_false hlast]
          simp only [Option.bind_some]
          rw [if_neg (by decide), wsucc i (by omega)]
      by_cases hlt2 : av a < av S[i].f0
      · have hnz : ¬ (S[i].f0.f1 = 0 ∧ S[i].f0.f2 = 0) := by
          rintro ⟨g1, g2⟩
          have h1 := ha.1
          unfold AW at h1
          unfold av at hlt2
          rw [g1, g2, hfam, hf] at hlt2
          omega
        obtain ⟨p1, p2, p3⟩ := prevA_spec hx.1 hnz
        obtain ⟨ext, e1, e2, e3, e4, e5⟩ := hj2 (out ++ [⟨a, prevA S[i].f0⟩]) (by simp; omega)
        have hw : RW ⟨a, prevA S[i].f0⟩ := ⟨ha, p1, hf.trans (hfam.symm.trans p2.symm), by show av a ≤ av (prevA S[i].f0); omega⟩
        refine ⟨⟨a, prevA S[i].f0⟩ :: ext, ?_, ⟨can_cons (Int.le_refl _) hw.2.2.2 (e2.mono (by show av (prevA S[i].f0) + 2 ≤ _; omega)), fun x hxm => ?_, fun n => ?_⟩, by simp; omega⟩
        · rw [show out ++ (⟨a, prevA S[i].f0⟩ : Rg) :: ext = out ++ [⟨a, prevA S[i].f0⟩] ++ ext from by simp]
          refine Ev.step (fun k => ?_) e1
          simp only [intrusionref07_Complement.l1]
          rw [if_pos (by omega), if_pos (by omega), rd_getR S i hlt, if_neg (by rw [hfam, hf]; simp), before_eq a S[i].f0 ha.1 hx.1.1, decide_eq_true hlt2, ahead_eq]
          simp only [Option.bind_some, if_true]
          rw [if_pos (by omega)]
        · rcases List.mem_cons.1 hxm with rfl | hxm
          · exact hw
          · exact e3 x hxm
        · rw [asm_cons, e4]
          unfold GapP
          rw [asm_cons]
          constructor
          · rintro (⟨_, g1, g2⟩ | ⟨g1, g2, g3⟩)
            · have g2 : n ≤ av (prevA S[i].f0) := g2
              refine ⟨g1, by omega, fun g => g.elim (fun g => by omega) (fun ⟨x, hxm, _, h1, h2⟩ => ?_)⟩
              have := hgt x hxm; omega
            · exact ⟨by omega, g2, fun g => g.elim (fun g => by omega) g3⟩
          · rintro ⟨g1, g2, g3⟩
            by_cases g4 : n < av S[i].f0
            · exact .inl ⟨hw, g1, by show n ≤ av (prevA S[i].f0); omega⟩
            · refine .inr ⟨?_, g2, fun g => g3 (.inr g)⟩
              apply Classical.byContradiction
              intro g5
              exact g3 (.inl ⟨hx, by omega, by omega⟩)
      · obtain ⟨ext, e1, e2, e3, e4, e5⟩ := hj2 out (by omega)
        refine ⟨ext, ?_, ⟨e2.mono (by omega), e3, fun n => ?_⟩, by omega⟩
        · refine Ev.step (fun k => ?_) e1
          simp only [intrusionref07_Complement.l1]
          rw [if_pos (by omega), if_pos (by omega), rd_getR S i hlt, if_neg (by rw [hfam, hf]; simp), before_eq a S[i].f0 ha.1 hx.1.1, decide_eq_false hlt2]
          rfl
        · rw [e4]
          unfold GapP
          rw [asm_cons]
          constructor
          · rintro ⟨g1, g2, g3⟩
            exact ⟨by omega, g2, fun g => g.elim (fun g => by omega) g3⟩
          · rintro ⟨g1, g2, g3⟩
            refine ⟨?_, g2, fun g => g3 (.inr g)⟩
            apply Classical.byContradiction
            intro g5
            exact g3 (.inl ⟨hx, by omega, by omega⟩)
    · obtain ⟨ext, e1, ⟨e2, e3, e4⟩, e5⟩ := ih (i + 1) a out _ ha hf (by omega) (by omega) c3 (fun x hxm hxf => hge x (List.mem_cons_of_mem _ hxm) hxf) (by omega) hM
      refine ⟨ext, ?_, ⟨e2, e3, fun n => ?_⟩, by omega⟩
      · refine Ev.step (fun k => ?_) e1
        simp only [intrusionref07_Complement.l1]
        rw [if_pos (by omega), if_pos (by omega), rd_getR S i hlt, if_pos (by rw [hf]; simpa using hfam), wsucc i (by omega)]
      · rw [e4]
        unfold GapP
        rw [asm_cons]
        refine and_congr_right (fun g1 => and_congr_right (fun g2 => not_congr ⟨.inr, fun g => g.elim (fun ⟨_, g3, g4⟩ => ?_) id⟩))
        exfalso
        have an := ha.num
        have tn := (topA_AF f).num
        rw [topA_f0] at tn
        rw [hf] at an
        rcases hx.num with ⟨_, _, n1 | n1⟩
        · cases f
          · exact hfam n1.1
          · rcases an with an | an
            · cases an.1
            · omega
        · cases f
          · rcases tn with tn | tn
            · omega
            · cases tn.1
          · exact hfam n1.1
theorem ev_rcomp (all S : List Rg) (fi : Nat) (f : Bool) (hS : S.length < 1000) (hR : ∀ x ∈ S, RW x) (hall : all.length = 2) (hfi : fi < 2) (htop : (rd_T66 all (fi : Int)).f1 = topA f) (res : List Rg → List Rg)
    (next : ∀ out, out.length ≤ 3000 → Ev (fun k => intrusionref07_Complement.l0 k out all S ((fi + 1 : Nat) : Int)) (res out)) :
    ∀ (d i : Nat) (a : Ad) (out : List Rg) (c : Int), AF a → a.f0 = f → S.length - i = d → i ≤ S.length → CanFrom c ((S.drop i).map rsp) → (∀ x ∈ S.drop i, x.f0.f0 = f → av a ≤ av x.f0) → out.length + (S.length - i) + 1 ≤ 3000 →
    ∃ ext, Ev (fun k => intrusionref07_Complement.l1 k out all S (fi : Int) false (i : Int) a.f0 a.f1 a.f2) (res (out ++ ext)) ∧ Ext (S.drop i) a f ext ∧ ext.length ≤ S.length - i + 1 :=
  fun d i a out c h1 h2 h3 h4 h5 h6 h7 => ev_rcomp4 all S fi f hS hR hall hfi htop res 3000 next d i a out c h1 h2 h3 h4 h5 h6 h7 (Nat.le_refl _)
def allR : List Rg := [⟨⟨false, 0, 0⟩, ⟨false, 0, 4294967295⟩⟩, ⟨⟨true, 0, 0⟩, ⟨true, 18446744073709551615, 18446744073709551615⟩⟩]
theorem arComp_spec (b : List Rg) (hb : b.length < 500) (qb : ∀ x ∈ b, RB x) : ∃ r, Ev (fun k => intrusionref07_Complement.f k b) r ∧ ACan (fun n => okN n ∧ ¬ ASM b n) r ∧ r.length ≤ 2 * b.length + 2 := by
  obtain ⟨S, s1, s2, s3⟩ := arNormal_spec b (by omega) qb
  have a4 : AF (⟨false, 0, 0⟩ : Ad) := ⟨⟨by simp, by simp, by simp, by simp⟩, .inr ⟨rfl, by simp⟩⟩
  have a6 : AF (⟨true, 0, 0⟩ : Ad) := ⟨⟨by simp, by simp, by simp, by simp⟩, .inl rfl⟩
  have v4 : av (⟨false, 0, 0⟩ : Ad) = 0 := by unfold av; simp
  have v6 : av (⟨true, 0, 0⟩ : Ad) = 680564733841876926926749214863536422912 := by unfold av; simp
  have t4 : av (topA false) = 4294967295 := by unfold av topA; simp
  have t6 : av (topA true) = 1020847100762815390390123822295304634367 := by unfold av topA; simp
  have hend : ∀ out : List Rg, Ev (fun k => intrusionref07_Complement.l0 k out allR S ((1 + 1 : Nat) : Int)) out := fun out => by
    refine Ev.step (f := fun _ => some out) (fun k => ?_) (Ev.now _)
    simp only [intrusionref07_Complement.l0]
    rw [if_neg (by omega)]
  have six : ∀ out : List Rg, out.length ≤ 1000 → ∃ ext, Ev (fun k => intrusionref07_Complement.l0 k out allR S ((0 + 1 : Nat) : Int)) (out ++ ext) ∧ Ext S ⟨true, 0, 0⟩ true ext ∧ ext.length ≤ S.length + 1 := fun out ho => by
    obtain ⟨ext, e1, e2, e3⟩ := ev_rcomp allR S 1 true (by omega) s2.2.1 rfl (by omega) rfl id (fun out _ => hend out) S.length 0 ⟨true, 0, 0⟩ out 0 a6 rfl (by omega) (Nat.zero_le _) s2.1 (fun x hx hf => by
      have hx := s2.2.1 x hx
      rcases hx.num with ⟨_, _, n1 | n1⟩
      · rw [hf] at n1; cases n1.1
      · rw [v6]; exact n1.2.2.1) (by omega)
    refine ⟨ext, ?_, e2, by omega⟩
    refine Ev.step (fun k => ?_) e1
    simp only [intrusionref07_Complement.l0]
    rw [if_pos (by omega), if_pos (by omega), if_pos (by show _ < ((2 : Nat) : Int); omega)]
    rfl
  have sixc : ∃ res : List Rg → List Rg, ∀ out : List Rg, out.length ≤ 1000 → (Ev (fun k => intrusionref07_Complement.l0 k out allR S ((0 + 1 : Nat) : Int)) (out ++ res out) ∧ Ext S ⟨true, 0, 0⟩ true (res out) ∧ (res out).length ≤ S.length + 1) :=
    ⟨fun out => if h : out.length ≤ 1000 then Classical.choose (six out h) else [], fun out ho => by
      simp only [dif_pos ho]
      exact Classical.choose_spec (six out ho)⟩
  obtain ⟨res, hres⟩ := sixc
  obtain ⟨ext, e1, ⟨e2, e3, e4⟩, e5⟩ := ev_rcomp4 allR S 0 false (by omega) s2.2.1 rfl (by omega) rfl (fun out => out ++ res out) 1000 (fun out ho => (hres out ho).1) S.length 0 ⟨false, 0, 0⟩ [] 0 a4 rfl (by omega) (Nat.zero_le _) s2.1 (fun x hx hf => by rw [v4]; exact (s2.2.1 x hx).num.1) (by simp; omega) (by omega)
  simp only [List.nil_append] at e1
  obtain ⟨_, ⟨g2, g3, g4⟩, g5⟩ := hres ext (by omega)
  rw [v4] at e2 e4
  rw [v6] at g2 g4
  rw [t4] at e4
  rw [t6] at g4
  rw [List.drop_zero] at e4
  have hle : ∀ x ∈ ext, av x.f1 ≤ 4294967295 := fun x hx => ((e4 (av x.f1)).1 ⟨x, hx, e3 x hx, (e3 x hx).2.2.2, Int.le_refl _⟩).2.1
  refine ⟨ext ++ res ext, ?_, ⟨?_, ?_, fun n => ?_⟩, by rw [List.length_append]; omega⟩
  · refine Ev.congr (f := fun k => (intrusionref07_Normal.f k b).bind fun t => intrusionref07_Complement.l0 k [] allR t 0) (fun k => rfl) (Ev.bind s1 ?_)
    refine Ev.step (fun k => ?_) e1
    simp only [intrusionref07_Complement.l0]
    rw [if_pos (by omega), if_pos (by omega), if_pos (by show _ < ((2 : Nat) : Int); omega)]
    rfl
  · rw [List.map_append, can_append]
    refine ⟨e2, fun x hx y hy => ?_, ⟨_, g2⟩, fun y hy => ?_⟩
    · obtain ⟨x', hx', rfl⟩ := List.mem_map.1 hx
      obtain ⟨y', hy', rfl⟩ := List.mem_map.1 hy
      have h1 := hle x' hx'
      have h2 := (can_wf _ _ g2 _ hy).1
      simp only [rsp] at h2 ⊢
      omega
    · have h2 := (can_wf _ _ g2 _ hy).1
      omega
  · intro x hx
    rcases List.mem_append.1 hx with hx | hx
    · exact e3 x hx
    · exact g3 x hx
  · rw [asm_append, e4, g4]
    unfold GapP okN
    rw [s2.2.2]
    constructor
    · rintro (⟨h1, h2, h3⟩ | ⟨h1, h2, h3⟩)
      · exact ⟨.inl ⟨h1, h2⟩, h3⟩
      · exact ⟨.inr ⟨h1, by omega⟩, h3⟩
    · rintro ⟨h1 | h1, h3⟩
      · exact .inl ⟨h1.1, h1.2, h3⟩
      · exact .inr ⟨h1.1, by omega, h3⟩
theorem arMinus_spec (a b : List Rg) (ha : a.length < 400) (hb : b.length < 400) (qa : ∀ x ∈ a, RB x) (qb : ∀ x ∈ b, RB x) : ∃ r, Ev (fun k => intrusionref07_Minus.f k a b) r ∧ ACan (fun n => ASM a n ∧ ¬ ASM b n) r := by
  obtain ⟨c, c1, c2, c3⟩ := arComp_spec b (by omega) qb
  obtain ⟨r, r1, r2, r3⟩ := arInter_spec a c (by omega) (by omega) qa (fun x hx => (c2.2.1 x hx).b)
  refine ⟨r, Ev.congr (fun k => rfl) (Ev.bind c1 (Ev.bind r1 (Ev.now _))), r2.congr (fun n => ?_)⟩
  rw [c2.2.2]
  exact ⟨fun h => ⟨h.1, h.2.2⟩, fun h => ⟨h.1, asm_ok h.1, h.2⟩⟩
end Go.Proofs.Ytcgfpffgiimgmaa.Q
end

section
set_option linter.unusedVariables false
set_option linter.unusedSimpArgs false
namespace Go.Proofs.Ytcgfpffgiimgmaa.Q
open Go.RowKit Go.Proofs.YtcgfpffgiimgmaaW.PrintWords Go.Proofs.YtcgfpffgiimgmaaW.PrintLast Go.Proofs.YtcgfpffgiimgmaaW.PrintMore Go.Proofs.Ytcgfpffgiimgmaa.Canon
theorem ofInt_toNat (x : Nat) (h : x < 18446744073709551616) : (BitVec.ofInt 64 (x : Int)).toNat = x := by
  rw [BitVec.toNat_ofInt]
  simp
  omega
theorem pow_le64 (n : Nat) (hn : n ≤ 64) : 2 ^ n ≤ 18446744073709551616 := Nat.le_trans (Nat.pow_le_pow_right (by decide) hn) (by decide)
theorem bits_and (x n : Nat) (hx : x < 18446744073709551616) (hn : n ≤ 64) : Go.bits .and .u64 (x : Int) ((2 ^ n - 1 : Nat) : Int) = ((x % 2 ^ n : Nat) : Int) := by
  have hp := pow_le64 n hn
  have hpos : 0 < 2 ^ n := Nat.pow_pos (by decide)
  unfold Go.bits
  show IntKind.u64.wrap ((((BitVec.ofInt 64 (x : Int)) &&& (BitVec.ofInt 64 ((2 ^ n - 1 : Nat) : Int))).toNat : Nat) : Int) = _
  rw [BitVec.toNat_and, ofInt_toNat x hx, ofInt_toNat _ (by omega), Nat.and_two_pow_sub_one_eq_mod]
  have := Nat.mod_le x (2 ^ n)
  exact u64_id (by omega) (by omega)
theorem bits_or (x n : Nat) (hx : x < 18446744073709551616) (hn : n ≤ 64) (h0 : x % 2 ^ n = 0) : Go.bits .or .u64 (x : Int) ((2 ^ n - 1 : Nat) : Int) = ((x + (2 ^ n - 1) : Nat) : Int) ∧ x + (2 ^ n - 1) < 18446744073709551616 := by
  have hp := pow_le64 n hn
  have hpos : 0 < 2 ^ n := Nat.pow_pos (by decide)
  have hx2 : x = 2 ^ n * (x / 2 ^ n) := by have := Nat.div_add_mod x (2 ^ n); omega
  have hlt : x + (2 ^ n - 1) < 18446744073709551616 := by
    obtain ⟨m, hm⟩ : ∃ m, 18446744073709551616 = 2 ^ n * m := ⟨2 ^ (64 - n), by rw [← Nat.pow_add]; rw [show n + (64 - n) = 64 from by omega]⟩
    have h1 : x / 2 ^ n < m := by
      rw [hm, hx2] at hx
      exact Nat.lt_of_mul_lt_mul_left hx
    have h2 : 2 ^ n * (x / 2 ^ n + 1) ≤ 2 ^ n * m := Nat.mul_le_mul_left _ h1
    rw [Nat.mul_add, Nat.mul_one, ← hx2, ← hm] at h2
    omega
  refine ⟨?_, hlt⟩
  unfold Go.bits
  show IntKind.u64.wrap ((((BitVec.ofInt 64 (x : Int)) ||| (BitVec.ofInt 64 ((2 ^ n - 1 : Nat) : Int))).toNat : Nat) : Int) = _
  rw [BitVec.toNat_or, ofInt_toNat x hx, ofInt_toNat _ (by omega)]
  have h3 : x ||| (2 ^ n - 1) = x + (2 ^ n - 1) := by
    have := Nat.two_pow_add_eq_or_of_lt (i := n) (b := 2 ^ n - 1) (by omega) (x / 2 ^ n)
    rw [← hx2] at this
    exact this.symm
  rw [h3]
  exact u64_id (by omega) (by omega)
theorem shl_one (n : Nat) (hn : n < 64) : IntKind.u64.wrap ((shl .u64 1 (n : Int)) - 1) = ((2 ^ n - 1 : Nat) : Int) := by
  have hp : 2 ^ n ≤ 9223372036854775808 := Nat.le_trans (Nat.pow_le_pow_right (by decide) (show n ≤ 63 by omega)) (by decide)
  have hpos : 0 < 2 ^ n := Nat.pow_pos (by decide)
  have e : shl .u64 1 (n : Int) = ((2 ^ n : Nat) : Int) := by
    unfold shl
    rw [show min (n : Int).toNat IntKind.u64.bits = n from by show min n 64 = n; omega]
    rw [Int.one_mul, show (2 : Int) ^ n = ((2 ^ n : Nat) : Int) from by simp]
    exact u64_id (by omega) (by omega)
  rw [e]
  rw [u64_id (by omega) (by omega)]
  omega
def hiM (k : Nat) : Int := ((2 ^ (k - 64) - 1 : Nat) : Int)
def loM (k : Nat) : Int := ((2 ^ (min k 64) - 1 : Nat) : Int)
def szA (f : Bool) : Nat := if f then 128 else 32
theorem low_eq (n : Int) (h : n ≤ 1000) : address_low.f n = some (((2 ^ (min n.toNat 64) - 1 : Nat)) : Int) := by
  unfold address_low.f
  by_cases h1 : n ≥ 64
  · rw [if_pos h1, show min n.toNat 64 = 64 from by omega]
    rfl
  · rw [if_neg h1]
    by_cases h2 : n ≤ 0
    · rw [if_pos h2, show min n.toNat 64 = 0 from by omega]
      rfl
    · rw [if_neg h2, if_pos (by omega), show min n.toNat 64 = n.toNat from by omega]
      have := shl_one n.toNat (by omega)
      rw [show ((n.toNat : Nat) : Int) = n from by omega] at this
      rw [this]
theorem size_eq (a : Ad) : address_size.f a.f0 a.f1 a.f2 = some ((szA a.f0 : Nat) : Int) := by
  unfold address_size.f szA
  cases a.f0 <;> rfl
theorem mask_eq (a : Ad) (b : Int) (k : Nat) (hk : (k : Int) = (szA a.f0 : Int) - b) (h0 : 0 ≤ b) (h1 : b ≤ szA a.f0) : address_mask.f a.f0 a.f1 a.f2 b = some (hiM k, loM k) := by
  have hs : szA a.f0 ≤ 128 := by unfold szA; split <;> omega
  unfold address_mask.f
  rw [size_eq]
  simp only [Option.bind_some]
  rw [wid (x := (szA a.f0 : Int) - b) (by omega) (by omega), ← hk, wid (x := (k : Int) - 64) (by omega) (by omega), low_eq _ (by omega), low_eq _ (by omega)]
  simp only [Option.bind_some]
  unfold hiM loM
  rw [show min ((k : Int) - 64).toNat 64 = k - 64 from by omega, show min ((k : Nat) : Int).toNat 64 = min k 64 from by omega]
theorem rlow_eq (n : Nat) (h : n ≤ 128) : intrusionref07_low.f (n : Int) = some (((2 ^ (min n 64) - 1 : Nat)) : Int) := by
  unfold intrusionref07_low.f
  by_cases h1 : (n : Int) ≥ 64
  · rw [if_pos h1, show min n 64 = 64 from by omega]
    rfl
  · rw [if_neg h1, u64_id (by omega) (by omega), if_pos (by omega), shl_one n (by omega), show min n 64 = n from by omega]
theorem rmask_eq (k : Nat) (h : k ≤ 128) : intrusionref07_Mask.f (k : Int) = some (hiM k, loM k) := by
  unfold intrusionref07_Mask.f hiM loM
  by_cases h1 : (k : Int) ≤ 64
  · rw [if_pos h1, rlow_eq k h, show k - 64 = 0 from by omega]
    rfl
  · rw [if_neg h1, wid (by omega) (by omega), show (k : Int) - 64 = ((k - 64 : Nat) : Int) from by omega, rlow_eq _ (by omega), show (64 : Int) = ((64 : Nat) : Int) from rfl, rlow_eq 64 (by omega), show min (k - 64) 64 = k - 64 from by omega, show min k 64 = 64 from by omega]
    rfl
def AL (a : Ad) (k : Nat) : Prop := a.f1.toNat % 2 ^ (k - 64) = 0 ∧ a.f2.toNat % 2 ^ (min k 64) = 0
def endA (a : Ad) (k : Nat) : Ad := ⟨a.f0, Go.bits .or .u64 a.f1 (hiM k), Go.bits .or .u64 a.f2 (loM k)⟩
theorem and_zero (x n : Nat) (hx : x < 18446744073709551616) (hn : n ≤ 64) : Go.bits .and .u64 (x : Int) ((2 ^ n - 1 : Nat) : Int) = 0 ↔ x % 2 ^ n = 0 := by
  rw [bits_and x n hx hn]
  omega
theorem al_iff {a : Ad} (ha : AW a) (k : Nat) (hk : k ≤ 128) : (Go.bits .and .u64 a.f1 (hiM k) = 0 ∧ Go.bits .and .u64 a.f2 (loM k) = 0) ↔ AL a k := by
  obtain ⟨h1, h2, h3, h4⟩ := ha
  unfold AL hiM loM
  have e1 := and_zero a.f1.toNat (k - 64) (by omega) (by omega)
  have e2 := and_zero a.f2.toNat (min k 64) (by omega) (by omega)
  rw [show ((a.f1.toNat : Nat) : Int) = a.f1 from by omega] at e1
  rw [show ((a.f2.toNat : Nat) : Int) = a.f2 from by omega] at e2
  rw [e1, e2]
theorem mod32 (x k : Nat) (hx : x ≤ 4294967295) (hk : k ≤ 32) (h : x % 2 ^ k = 0) : x + (2 ^ k - 1) ≤ 4294967295 := by
  have hpos : 0 < 2 ^ k := Nat.pow_pos (by decide)
  have hx2 : x = 2 ^ k * (x / 2 ^ k) := by have := Nat.div_add_mod x (2 ^ k); omega
  obtain ⟨m, hm⟩ : ∃ m, 4294967296 = 2 ^ k * m := ⟨2 ^ (32 - k), by rw [← Nat.pow_add]; rw [show k + (32 - k) = 32 from by omega]⟩
  have h1 : x / 2 ^ k < m := by
    have h2 : x < 4294967296 := by omega
    rw [hm, hx2] at h2
    exact Nat.lt_of_mul_lt_mul_left h2
  have h2 : 2 ^ k * (x / 2 ^ k + 1) ≤ 2 ^ k * m := Nat.mul_le_mul_left _ h1
  rw [Nat.mul_add, Nat.mul_one, ← hx2, ← hm] at h2
  omega
theorem endA_spec {a : Ad} (ha : AF a) (k : Nat) (hk : k ≤ szA a.f0) (hal : AL a k) : AF (endA a k) ∧ av (endA a k) = av a + ((2 ^ k - 1 : Nat) : Int) ∧ (endA a k).f0 = a.f0 ∧ RW ⟨a, endA a k⟩ := by
  have hs : szA a.f0 ≤ 128 := by unfold szA; split <;> omega
  obtain ⟨⟨h1, h2, h3, h4⟩, h5⟩ := ha
  obtain ⟨l1, l2⟩ := hal
  obtain ⟨e1, b1⟩ := bits_or a.f1.toNat (k - 64) (by omega) (by omega) l1
  obtain ⟨e2, b2⟩ := bits_or a.f2.toNat (min k 64) (by omega) (by omega) l2
  rw [show ((a.f1.toNat : Nat) : Int) = a.f1 from by omega] at e1
  rw [show ((a.f2.toNat : Nat) : Int) = a.f2 from by omega] at e2
  have hf1 : (endA a k).f1 = ((a.f1.toNat + (2 ^ (k - 64) - 1) : Nat) : Int) := e1
  have hf2 : (endA a k).f2 = ((a.f2.toNat + (2 ^ (min k 64) - 1) : Nat) : Int) := e2
  have hw : AW (endA a k) := ⟨by rw [hf1]; omega, by rw [hf1]; omega, by rw [hf2]; omega, by rw [hf2]; omega⟩
  have hff : (endA a k).f0 = a.f0 := rfl
  have haf : AF (endA a k) := by
    refine ⟨hw, ?_⟩
    rcases h5 with h5 | ⟨h5, h6⟩
    · exact .inl h5
    · cases hfa : a.f0
      · rw [hfa] at hk
        have hk32 : k ≤ 32 := hk
        refine .inr ⟨?_, ?_⟩
        · rw [hf1, show k - 64 = 0 from by omega]; simp; omega
        · rw [hf2, show min k 64 = k from by omega]
          rw [show min k 64 = k from by omega] at l2
          have := mod32 a.f2.toNat k (by omega) hk32 l2
          omega
      · exact .inl (by rw [hff, hfa])
  have hav : av (endA a k) = av a + ((2 ^ k - 1 : Nat) : Int) := by
    unfold av
    rw [hff, hf1, hf2]
    have hpos : 0 < 2 ^ (k - 64) := Nat.pow_pos (by decide)
    by_cases hk64 : k ≤ 64
    · rw [show k - 64 = 0 from by omega, show min k 64 = k from by omega]
      simp
      omega
    · rw [show min k 64 = 64 from by omega]
      have e : 2 ^ k = 2 ^ (k - 64) * 18446744073709551616 := by
        rw [show (18446744073709551616 : Nat) = 2 ^ 64 from by decide, ← Nat.pow_add, show k - 64 + 64 = k from by omega]
      rw [e]
      generalize 2 ^ (k - 64) = m at hpos
      omega
  exact ⟨haf, hav, hff, ⟨⟨h1, h2, h3, h4⟩, h5⟩, haf, hff.symm, by show av a ≤ av (endA a k); rw [hav]; omega⟩
def PV (p : Px) : Prop := AF p.f0 ∧ 0 ≤ p.f1 ∧ p.f1 ≤ szA p.f0.f0 ∧ AL p.f0 (szA p.f0.f0 - p.f1.toNat)
def PB (p : Px) : Prop := AW p.f0 ∧ -9223372036854775808 ≤ p.f1 ∧ p.f1 ≤ 9223372036854775807
def freeB (p : Px) : Nat := szA p.f0.f0 - p.f1.toNat
def blkR (p : Px) : Rg := ⟨p.f0, endA p.f0 (freeB p)⟩
theorem pb_of {p : Px} (h : q45 p) : PB p := by
  refine ⟨aw_of h.1, ?_⟩
  have h2 := h.2
  simp only [Lit.wf, Bool.and_eq_true, decide_eq_true_eq] at h2
  have e1 : IntKind.i64.min = -9223372036854775808 := by decide
  have e2 : IntKind.i64.max = 9223372036854775807 := by decide
  rw [e1, e2] at h2
  omega
theorem sz_le (f : Bool) : szA f ≤ 128 := by unfold szA; split <;> omega
theorem vp_iff {p : Px} (h : PB p) : vpB p = true ↔ PV p := by
  have e := vp_eq p
  unfold address_ValidPrefix.f at e
  rw [fine_eq] at e
  simp only [Option.bind_some] at e
  unfold PV
  by_cases hf : fineB p.f0 = true
  · rw [if_pos hf] at e
    have haf := (fine_iff h.1).1 hf
    by_cases h1 : p.f1 < 0
    · rw [if_pos h1] at e
      injection e with e
      rw [← e]
      constructor
      · intro g; cases g
      · rintro ⟨_, g, _⟩; omega
    · rw [if_neg h1, size_eq] at e
      simp only [Option.bind_some] at e
      by_cases h2 : p.f1 > (szA p.f0.f0 : Int)
      · rw [if_pos h2] at e
        injection e with e
        rw [← e]
        constructor
        · intro g; cases g
        · rintro ⟨_, _, g, _⟩; omega
      · rw [if_neg h2, mask_eq p.f0 p.f1 (szA p.f0.f0 - p.f1.toNat) (by omega) (by omega) (by omega)] at e
        simp only [Option.bind_some] at e
        have ha := al_iff h.1 (szA p.f0.f0 - p.f1.toNat) (by have := sz_le p.f0.f0; omega)
        by_cases h3 : Go.bits .and .u64 p.f0.f1 (hiM (szA p.f0.f0 - p.f1.toNat)) = 0
        · rw [if_pos h3] at e
          injection e with e
          rw [← e, beq_iff_eq]
          exact ⟨fun g => ⟨haf, by omega, by omega, ha.1 ⟨h3, g⟩⟩, fun g => (ha.2 g.2.2.2).2⟩
        · rw [if_neg h3] at e
          injection e with e
          rw [← e]
          exact ⟨fun g => (by cases g), fun g => absurd (ha.2 g.2.2.2).1 h3⟩
  · rw [if_neg hf] at e
    injection e with e
    rw [← e]
    exact ⟨fun g => (by cases g), fun g => absurd ((fine_iff h.1).2 g.1) hf⟩
theorem right_ev {p : Px} (h : PB p) : Ev (fun k => intrusionref07_Right.f k p.f0.f0 p.f0.f1 p.f0.f2 p.f1) (vpB p) := by
  have hv := vp_iff h
  unfold intrusionref07_Right.f
  rw [rfine_eq _ h.1]
  simp only [Option.bind_some]
  have hrs : intrusionref07_Size.f p.f0.f0 p.f0.f1 p.f0.f2 = some ((szA p.f0.f0 : Nat) : Int) := by unfold intrusionref07_Size.f szA; cases p.f0.f0 <;> rfl
  have hfalse : vpB p = false → Ev (fun k => intrusionref07_Right.j0 k true p.f0.f0 p.f0.f1 p.f0.f2 p.f1) (vpB p) := fun e => by
    rw [e]
    refine Ev.step (f := fun _ => some false) (fun k => ?_) (Ev.now _)
    simp only [intrusionref07_Right.j0]; rw [if_pos (by trivial)]
  by_cases hf : fineB p.f0 = true
  · have haf := (fine_iff h.1).1 hf
    by_cases h1 : p.f1 < 0
    · refine Ev.congr (fun k => by rw [if_pos hf, if_pos h1]) (hfalse (Bool.eq_false_iff.2 (fun g => ?_)))
      have := (hv.1 g).2.1; omega
    · by_cases h2 : p.f1 > (szA p.f0.f0 : Int)
      · refine Ev.congr (fun k => by rw [if_pos hf, if_neg h1, hrs]; simp only [Option.bind_some]; rw [decide_eq_true h2]) (hfalse (Bool.eq_false_iff.2 (fun g => ?_)))
        have := (hv.1 g).2.2.1; omega
      · refine Ev.congr (f := fun k => intrusionref07_Right.j0 k false p.f0.f0 p.f0.f1 p.f0.f2 p.f1) (fun k => by rw [if_pos hf, if_neg h1, hrs]; simp only [Option.bind_some]; rw [decide_eq_false h2]) ?_
        refine Ev.step (f := fun _ => some (vpB p)) (fun k => ?_) (Ev.now _)
        have hs := sz_le p.f0.f0
        simp only [intrusionref07_Right.j0]
        rw [if_neg (by decide), hrs]
        simp only [Option.bind_some]
        rw [wid (by omega) (by omega), show (szA p.f0.f0 : Int) - p.f1 = ((szA p.f0.f0 - p.f1.toNat : Nat) : Int) from by omega, rmask_eq _ (by omega)]
        simp only [Option.bind_some]
        have ha := al_iff h.1 (szA p.f0.f0 - p.f1.toNat) (by omega)
        by_cases h3 : Go.bits .and .u64 p.f0.f1 (hiM (szA p.f0.f0 - p.f1.toNat)) = 0
        · rw [if_pos h3]
          congr 1
          rw [Bool.eq_iff_iff, beq_iff_eq, hv]
          exact ⟨fun g => ⟨haf, by omega, by omega, ha.1 ⟨h3, g⟩⟩, fun g => (ha.2 g.2.2.2).2⟩
        · rw [if_neg h3]
          congr 1
          exact (Bool.eq_false_iff.2 (fun g => h3 (ha.2 (hv.1 g).2.2.2).1)).symm
  · refine Ev.congr (fun k => by rw [if_neg hf]) (hfalse (Bool.eq_false_iff.2 (fun g => hf ((fine_iff h.1).2 (hv.1 g).1))))
theorem bounds_eq {p : Px} (h0 : 0 ≤ p.f1) (h1 : p.f1 ≤ szA p.f0.f0) : address_Bounds.f p.f0.f0 p.f0.f1 p.f0.f2 p.f1 = some (p.f0.f0, p.f0.f1, p.f0.f2, p.f0.f0, (endA p.f0 (freeB p)).f1, (endA p.f0 (freeB p)).f2) := by
  unfold address_Bounds.f
  rw [mask_eq p.f0 p.f1 (freeB p) (by unfold freeB; omega) h0 h1]
  rfl
theorem block_eq {p : Px} (h0 : 0 ≤ p.f1) (h1 : p.f1 ≤ szA p.f0.f0) : intrusionref07_Block.f p.f0.f0 p.f0.f1 p.f0.f2 p.f1 = some (p.f0.f0, p.f0.f1, p.f0.f2, p.f0.f0, (endA p.f0 (freeB p)).f1, (endA p.f0 (freeB p)).f2) := by
  have hs := sz_le p.f0.f0
  have hrs : intrusionref07_Size.f p.f0.f0 p.f0.f1 p.f0.f2 = some ((szA p.f0.f0 : Nat) : Int) := by unfold intrusionref07_Size.f szA; cases p.f0.f0 <;> rfl
  unfold intrusionref07_Block.f
  rw [hrs]
  simp only [Option.bind_some]
  rw [wid (by omega) (by omega), show (szA p.f0.f0 : Int) - p.f1 = ((freeB p : Nat) : Int) from by unfold freeB; omega, rmask_eq _ (by unfold freeB; omega)]
  rfl
theorem blk_RW {p : Px} (h : PV p) : RW (blkR p) := (endA_spec h.1 (freeB p) (by unfold freeB; omega) h.2.2.2).2.2.2
def PSM (l : List Px) (n : Int) : Prop := ∃ p ∈ l, PV p ∧ av p.f0 ≤ n ∧ n ≤ av (endA p.f0 (freeB p))
theorem psm_nil (n : Int) : PSM [] n ↔ False := by simp [PSM]
theorem psm_cons (x : Px) (t : List Px) (n : Int) : PSM (x :: t) n ↔ (PV x ∧ av x.f0 ≤ n ∧ n ≤ av (endA x.f0 (freeB x))) ∨ PSM t n := by
  unfold PSM
  simp only [List.mem_cons]
  constructor
  · rintro ⟨y, rfl | hy, h⟩
    · exact .inl h
    · exact .inr ⟨y, hy, h⟩
  · rintro (h | ⟨y, hy, h⟩)
    · exact ⟨x, .inl rfl, h⟩
    · exact ⟨y, .inr hy, h⟩
theorem asm_blk (l : List Px) (hl : ∀ p ∈ l, PV p) (n : Int) : ASM (l.map blkR) n ↔ PSM l n := by
  unfold ASM PSM
  constructor
  · rintro ⟨x, hx, _, h⟩
    obtain ⟨p, hp, rfl⟩ := List.mem_map.1 hx
    exact ⟨p, hp, hl p hp, h⟩
  · rintro ⟨p, hp, _, h⟩
    exact ⟨blkR p, List.mem_map.2 ⟨p, hp, rfl⟩, blk_RW (hl p hp), h⟩
theorem psm_filter (l : List Px) (hl : ∀ p ∈ l, PB p) (n : Int) : PSM (l.filter vpB) n ↔ PSM l n := by
  unfold PSM
  constructor
  · rintro ⟨x, hx, g⟩; exact ⟨x, (List.mem_filter.1 hx).1, g⟩
  · rintro ⟨x, hx, g⟩; exact ⟨x, List.mem_filter.2 ⟨hx, (vp_iff (hl x hx)).2 g.1⟩, g⟩
theorem ev_aOf0 (L : List Px) (hl : L.length < 1000000) (hL : ∀ p ∈ L, PV p) {r : List Rg} (hr : Ev (fun k => addrset_Normal.f k (L.map blkR)) r) : ∀ (d i : Nat) (out : List Rg), L.length - i = d → i ≤ L.length → out ++ (L.drop i).map blkR = L.map blkR → out.length = i → Ev (fun k => addrset_Of.l0 k out L (L.length : Int) (i : Int)) r := by
  intro d
  induction d with
  | zero =>
    intro i out hd hi ho hlen
    have : i = L.length := by omega
    subst this
    have e : out = L.map blkR := by rw [← ho, List.drop_length]; simp
    subst e
    refine Ev.step (f := fun k => (addrset_Normal.f k (L.map blkR)).bind fun t => some t) (fun k => ?_) (Ev.bind hr (Ev.now _))
    simp only [addrset_Of.l0]; rw [if_neg (by omega)]
  | succ d ih =>
    intro i out hd hi ho hlen
    have hlt : i < L.length := by omega
    have hp := hL L[i] (List.getElem_mem hlt)
    rw [dropc L i hlt, List.map_cons] at ho
    have h2 := ih (i + 1) (out ++ [blkR L[i]]) (by omega) (by omega) (by rw [← ho]; simp) (by simp; omega)
    refine Ev.step (fun k => ?_) h2
    simp only [addrset_Of.l0]
    rw [if_pos (by omega), if_pos (by omega), if_pos (by omega), rd_getP L i hlt, bounds_eq hp.2.1 hp.2.2.1]
    simp only [Option.bind_some]
    rw [if_pos (by omega), wsucc i (by omega)]
    rfl
theorem aOf_spec (l : List Px) (hl : l.length < 1000000) (hb : ∀ p ∈ l, PB p) : ∃ r, Ev (fun k => addrset_Of.f k l) r ∧ ACan (PSM l) r ∧ r.length ≤ l.length := by
  have hf : ∀ p ∈ l.filter vpB, PV p := fun p hp => (vp_iff (hb p (List.mem_filter.1 hp).1)).1 (List.mem_filter.1 hp).2
  have hlen := List.length_filter_le vpB l
  have hrb : ∀ x ∈ (l.filter vpB).map blkR, RB x := fun x hx => by
    obtain ⟨p, hp, rfl⟩ := List.mem_map.1 hx
    exact (blk_RW (hf p hp)).b
  obtain ⟨r, r1, r2, r3⟩ := aNormal_spec ((l.filter vpB).map blkR) (by rw [List.length_map]; omega) hrb
  refine ⟨r, ?_, r2.congr (fun n => by rw [asm_blk _ hf, psm_filter l hb]), by rw [List.length_map] at r3; omega⟩
  have h := ev_aOf0 (l.filter vpB) (by omega) hf r1 (l.filter vpB).length 0 [] (by omega) (Nat.zero_le _) (by simp) rfl
  refine Ev.congr (fun k => ?_) h
  unfold addrset_Of.f addrset_keptP.f
  rw [if_pos (by omega)]
  rfl
theorem ev_rOf0 (L : List Px) (hl : L.length < 1000000) (hL : ∀ p ∈ L, PB p) : ∀ (d i : Nat) (out : List Rg) (P : Int → Prop), L.length - i = d → i ≤ L.length → out.length ≤ i → ACan P out → ∃ r, Ev (fun k => intrusionref07_Of.l0 k L out (i : Int)) r ∧ ACan (fun n => P n ∨ PSM (L.drop i) n) r ∧ r.length ≤ L.length := by
  intro d
  induction d with
  | zero =>
    intro i out P hd hi ho hc
    have : i = L.length := by omega
    subst this
    refine ⟨out, Ev.step (f := fun _ => some out) (fun k => ?_) (Ev.now out), hc.congr (fun n => ?_), ho⟩
    · simp only [intrusionref07_Of.l0]; rw [if_neg (by omega)]
    · rw [List.drop_length, psm_nil, or_false]
  | succ d ih =>
    intro i out P hd hi ho hc
    have hlt : i < L.length := by omega
    have hb := hL L[i] (List.getElem_mem hlt)
    have hv := vp_iff hb
    by_cases hs : PV L[i]
    · obtain ⟨s, s1, s2, s3⟩ := radd_spec hc (blkR L[i]) (blk_RW hs) (by omega)
      obtain ⟨r, r1, r2, r3⟩ := ih (i + 1) s _ (by omega) (by omega) (by omega) s2
      refine ⟨r, ?_, r2.congr (fun n => ?_), r3⟩
      · refine Ev.step (f := fun k => (intrusionref07_Right.f k L[i].f0.f0 L[i].f0.f1 L[i].f0.f2 L[i].f1).bind fun t => if t = true then ((intrusionref07_add.f k out (blkR L[i]).f0.f0 (blkR L[i]).f0.f1 (blkR L[i]).f0.f2 (blkR L[i]).f1.f0 (blkR L[i]).f1.f1 (blkR L[i]).f1.f2).bind fun t => intrusionref07_Of.l0 k L t ((i + 1 : Nat) : Int)) else intrusionref07_Of.l0 k L out ((i + 1 : Nat) : Int)) (fun k => ?_) (Ev.bind (right_ev hb) ?_)
        · simp only [intrusionref07_Of.l0]
          rw [if_pos (by omega), if_pos (by omega), rd_getP L i hlt, block_eq hs.2.1 hs.2.2.1, wsucc i (by omega)]
          rfl
        · rw [hv.2 hs]
          simp only [if_true]
          exact Ev.bind s1 r1
      · rw [dropc L i hlt, psm_cons, or_assoc]
        exact or_congr_right (or_congr_left ⟨fun h => ⟨hs, h⟩, fun h => h.2⟩)
    · obtain ⟨r, r1, r2, r3⟩ := ih (i + 1) out P (by omega) (by omega) (by omega) hc
      refine ⟨r, ?_, r2.congr (fun n => ?_), r3⟩
      · refine Ev.step (f := fun k => (intrusionref07_Right.f k L[i].f0.f0 L[i].f0.f1 L[i].f0.f2 L[i].f1).bind fun t => if t = true then ((intrusionref07_Block.f L[i].f0.f0 L[i].f0.f1 L[i].f0.f2 L[i].f1).bind fun bt => ((intrusionref07_add.f k out bt.1 bt.2.1 bt.2.2.1 bt.2.2.2.1 bt.2.2.2.2.1 bt.2.2.2.2.2).bind fun t => intrusionref07_Of.l0 k L t ((i + 1 : Nat) : Int))) else intrusionref07_Of.l0 k L out ((i + 1 : Nat) : Int)) (fun k => ?_) (Ev.bind (right_ev hb) ?_)
        · simp only [intrusionref07_Of.l0]
          rw [if_pos (by omega), if_pos (by omega), rd_getP L i hlt, wsucc i (by omega)]
        · rw [Bool.eq_false_iff.2 (fun h => hs (hv.1 h))]
          simp only [Bool.false_eq_true, if_false]
          exact r1
      · rw [dropc L i hlt, psm_cons]
        exact or_congr_right ⟨.inr, fun h => h.elim (fun h => (hs h.1).elim) id⟩
theorem arOf_spec (l : List Px) (hl : l.length < 1000000) (hb : ∀ p ∈ l, PB p) : ∃ r, Ev (fun k => intrusionref07_Of.f k l) r ∧ ACan (PSM l) r := by
  obtain ⟨r, r1, r2, r3⟩ := ev_rOf0 l hl hb l.length 0 [] _ rfl (Nat.zero_le _) (Nat.le_refl _) ACan.none
  exact ⟨r, r1, r2.congr (fun n => by simp)⟩
theorem all_can : ACan okN allR := by
  have t := topA_AF
  refine ⟨⟨by decide, by decide, by decide, by decide, trivial⟩, ?_, fun n => ?_⟩
  · intro x hx
    simp only [allR, List.mem_cons, List.not_mem_nil, or_false] at hx
    rcases hx with rfl | rfl
    · exact ⟨⟨⟨by simp, by simp, by simp, by simp⟩, .inr ⟨rfl, by simp⟩⟩, t false, rfl, by decide⟩
    · exact ⟨⟨⟨by simp, by simp, by simp, by simp⟩, .inl rfl⟩, t true, rfl, by decide⟩
  · have w1 : RW (⟨⟨false, 0, 0⟩, ⟨false, 0, 4294967295⟩⟩ : Rg) := ⟨⟨⟨by simp, by simp, by simp, by simp⟩, .inr ⟨rfl, by simp⟩⟩, t false, rfl, by decide⟩
    have w2 : RW (⟨⟨true, 0, 0⟩, ⟨true, 18446744073709551615, 18446744073709551615⟩⟩ : Rg) := ⟨⟨⟨by simp, by simp, by simp, by simp⟩, .inl rfl⟩, t true, rfl, by decide⟩
    unfold allR
    rw [asm_cons, asm_cons, asm_nil]
    simp only [w1, w2, true_and, or_false]
    unfold okN av
    simp
    omega
def evalP (l0 l1 : List Px) (n : Int) : Prop := (if l0.length = 0 then okN n else PSM l0 n) ∧ ¬ PSM l1 n
theorem aEval_spec (l0 l1 : List Px) (h0 : l0.length < 1000) (h1 : l1.length < 1000) (b0 : ∀ p ∈ l0, PB p) (b1 : ∀ p ∈ l1, PB p) : ∃ r, Ev (fun k => addrset_Eval.f k l0 l1) r ∧ ACan (evalP l0 l1) r ∧ r.length ≤ 3000 := by
  obtain ⟨y, y1, y2, y3⟩ := aOf_spec l1 (by omega) b1
  have yb : ∀ z ∈ y, RB z := fun z hz => (y2.2.1 z hz).b
  unfold addrset_Eval.f addrset_All.f
  simp only [Option.bind_some]
  by_cases he : l0.length = 0
  · obtain ⟨r, r1, r2, r3⟩ := aMinus_spec allR y (by decide) (by omega) (fun z hz => (all_can.2.1 z hz).b) yb
    refine ⟨r, ?_, r2.congr (fun n => ?_), by have : allR.length = 2 := rfl; omega⟩
    · refine Ev.congr (fun k => by rw [if_neg (by omega)]) (Ev.bind y1 (Ev.bind (f := fun _ t => some t) r1 (Ev.now _)))
    · unfold evalP
      rw [if_pos he, all_can.2.2, y2.2.2]
  · obtain ⟨x, x1, x2, x3⟩ := aOf_spec l0 (by omega) b0
    obtain ⟨r, r1, r2, r3⟩ := aMinus_spec x y (by omega) (by omega) (fun z hz => (x2.2.1 z hz).b) yb
    refine ⟨r, ?_, r2.congr (fun n => ?_), by omega⟩
    · refine Ev.congr (fun k => by rw [if_pos (by omega)]) (Ev.bind x1 (Ev.bind y1 (Ev.bind (f := fun _ t => some t) r1 (Ev.now _))))
    · unfold evalP
      rw [if_neg he, x2.2.2, y2.2.2]
theorem arEval_spec (l0 l1 : List Px) (h0 : l0.length < 300) (h1 : l1.length < 300) (b0 : ∀ p ∈ l0, PB p) (b1 : ∀ p ∈ l1, PB p) : ∃ r, Ev (fun k => intrusionref07_Eval.f k l0 l1) r ∧ ACan (evalP l0 l1) r := by
  obtain ⟨y, y1, y2⟩ := arOf_spec l1 (by omega) b1
  obtain ⟨y', _, y2', y3'⟩ := aOf_spec l1 (by omega) b1
  have ey := y2'.uniq y2
  subst ey
  have yb : ∀ z ∈ y', RB z := fun z hz => (y2.2.1 z hz).b
  unfold intrusionref07_Eval.f intrusionref07_All.f
  simp only [Option.bind_some]
  by_cases he : l0.length = 0
  · obtain ⟨r, r1, r2⟩ := arMinus_spec allR y' (by decide) (by omega) (fun z hz => (all_can.2.1 z hz).b) yb
    refine ⟨r, ?_, r2.congr (fun n => ?_)⟩
    · refine Ev.congr (fun k => by rw [if_pos (by omega)]) (Ev.bind y1 (Ev.bind (f := fun _ t => some t) r1 (Ev.now _)))
    · unfold evalP
      rw [if_pos he, all_can.2.2, y2.2.2]
  · obtain ⟨x, x1, x2⟩ := arOf_spec l0 (by omega) b0
    obtain ⟨x', _, x2', x3'⟩ := aOf_spec l0 (by omega) b0
    have ex := x2'.uniq x2
    subst ex
    obtain ⟨r, r1, r2⟩ := arMinus_spec x' y' (by omega) (by omega) (fun z hz => (x2.2.1 z hz).b) yb
    refine ⟨r, ?_, r2.congr (fun n => ?_)⟩
    · refine Ev.congr (fun k => by rw [if_neg (by omega)]) (Ev.bind x1 (Ev.bind y1 (Ev.bind (f := fun _ t => some t) r1 (Ev.now _))))
    · unfold evalP
      rw [if_neg he, x2.2.2, y2.2.2]
end Go.Proofs.Ytcgfpffgiimgmaa.Q
end

section
set_option linter.unusedVariables false
set_option linter.unusedSimpArgs false
namespace Go.Proofs.Ytcgfpffgiimgmaa.Pure
open Go.RowKit Go.Proofs.Ytcgfpffgiimgmaa.Q Go.Proofs.YtcgfpffgiimgmaaW.PrintWords Go.Proofs.YtcgfpffgiimgmaaW.PrintLast Go.Proofs.YtcgfpffgiimgmaaW.PrintMore
theorem AddrsetEvaluates : ∀ (l0 : List (Px)) (l1 : List (Px)), l0.length ≤ maxLen → (∀ x ∈ l0, q45 x) → l1.length ≤ maxLen → (∀ x ∈ l1, q45 x) → ∃ k, intrusionlaw07_AddrsetEvaluates.f k l0 l1 = some true := by
  intro l0 l1 hm hq hm1 hq1
  have qa : ∀ x ∈ l0, PB x := fun x hx => pb_of (hq x hx)
  have qb : ∀ x ∈ l1, PB x := fun x hx => pb_of (hq1 x hx)
  refine Ev.rounds (g := fun k => intrusionlaw07_AddrsetEvaluates.f k l0 l1) ?_
  unfold intrusionlaw07_AddrsetEvaluates.f
  have hno : Ev (fun k => (intrusionlaw07_awake.f k).bind fun t => some t) true := Ev.bind aawake_ev (Ev.now _)
  have hn : Ev (fun k => intrusionlaw07_AddrsetEvaluates.j0 k l0 l1 true) true := by
    refine Ev.step (fun k => ?_) hno
    simp only [intrusionlaw07_AddrsetEvaluates.j0]; rw [if_pos (by trivial)]
  by_cases h0 : (l0.length : Int) > 16
  · exact Ev.congr (fun k => by rw [if_pos h0]) hn
  · by_cases h1 : (l1.length : Int) > 16
    · exact Ev.congr (fun k => by rw [if_neg h0, decide_eq_true h1]) hn
    · refine Ev.congr (fun k => by rw [if_neg h0, decide_eq_false h1]) ?_
      obtain ⟨u, u1, u2, u3⟩ := aOf_spec l0 (by omega) qa
      obtain ⟨v, v1, v2⟩ := arOf_spec l0 (by omega) qa
      have e1 := v2.uniq u2
      subst e1
      obtain ⟨i, i1, i2, i3⟩ := aEval_spec l0 l1 (by omega) (by omega) qa qb
      obtain ⟨j, j1, j2⟩ := arEval_spec l0 l1 (by omega) (by omega) qa qb
      have e2 := j2.uniq i2
      subst e2
      refine Ev.step (f := fun k => (addrset_Of.f k l0).bind fun t906 => ((intrusionref07_Of.f k l0).bind fun t909 => ((intrusionref07_Same.f k t906 t909).bind fun t912 => (if t912 = true then ((addrset_Eval.f k l0 l1).bind fun t913 => ((intrusionref07_Eval.f k l0 l1).bind fun t916 => ((intrusionref07_Same.f k t913 t916).bind fun t919 => (if t919 = true then ((intrusionlaw07_awake.f k).bind fun t920 => (some t920)) else (some false))))) else (some false))))) (fun k => ?_) ?_
      · simp only [intrusionlaw07_AddrsetEvaluates.j0]; rw [if_neg (by decide)]
      refine Ev.bind u1 (Ev.bind v1 (Ev.bind (aSame_ev _ (by omega)) ?_))
      simp only [if_true]
      refine Ev.bind i1 (Ev.bind j1 (Ev.bind (aSame_ev _ (by omega)) ?_))
      simp only [if_true]
      exact hno
end Go.Proofs.Ytcgfpffgiimgmaa.Pure
end

section
namespace Go.Proofs.Ytcgfpffgiimgmaa.addrsetEvaluates
open Go.ChangeShapes Go.WideShapes Go.ChangeAt Go.RowKit Go.Proofs.YtcgfpffgiimgmaaW.PrintWords Go.Proofs.Ytcgfpffgiimgmaa.Read Go.Proofs.Ytcgfpffgiimgmaa.Q
open Go.ChangeMaps (open_string shut_string)
set_option linter.unusedVariables false
theorem own : ownKnob Try.prog.godebug = none := by kernel_rfl
theorem laidOut : laidOutB Try.prog = true := by kernel_rfl
set_option maxRecDepth 100000 in
theorem lifted (os : Os) (started : os.Started) (H : Type) (enc : TypeId × Value → H) :
    ReturnsInHanded {} Try.checked os 11 .any (Rows.addrsetEvaluatesSpec.pre6 enc Try.prog Try.f11 Rows.addrsetEvaluatesRow.domain false) (Rows.addrsetEvaluatesSpec.post enc Try.prog Try.f11 false true false false) := by
  refine returnsInHanded_of_change_sized (C := Try.checked) own started (by kernel_rfl) Try.func11
    (ChangeSpec.witness6 (enc := enc) (C := Try.checked) false ⟨#[], #[.slice none 0 0, .slice none 0 0], []⟩ 8 (by kernel_rfl) (by kernel_rfl) (by kernel_rfl) (by kernel_rfl)) ?_
  intro W base args ds gs before hval0 hW hcnd hsz0 _
  have hsz : (DataW.weightsEach Try.prog (Try.f11.params.toList ++ Rows.addrsetEvaluatesSpec.plain.varTypes Try.prog) (ds ++ gs)).all (· ≤ reachBytes) = true := hsz0
  have hval : ∀ (j : Nat) t v, Try.f11.params[j]? = some t → args[j]? = some v → Value.okWide Try.prog W .any base t v := hval0
  have hW' := hW
  obtain ⟨p, q, hA0, hV, rfl, hfz, hnd⟩ := hW
  have hA : DataW.TrodAll enc Try.prog W 0 (fun _ => true) true Try.f11.params.toList args.toList ds p := hA0
  rw [Try.params11] at hA hval hsz
  obtain ⟨v0, vs0, d0, ds0, p0, q0, hargs, rfl, rfl, h0, r0⟩ := trodAll_cons hA
  obtain ⟨v1, vs1, d1, ds1, p1, q1, rfl, rfl, rfl, h1, r1⟩ := trodAll_cons r0
  obtain ⟨rfl, rfl, rfl⟩ := trodAll_nil r1
  obtain rfl : args = #[v0, v1] := by cases args; simp_all
  obtain ⟨rfl, rfl⟩ := trodVars_none hV
  obtain ⟨a0, len0, cap0, rfl⟩ := okWide_slice Try.underlying42 (hval 0 42 v0 rfl rfl)
  have k0_ := h0
  have lt0 : ∀ x ∈ p0, x.block < W.heap.size := by obtain ⟨m, hm⟩ := k0_; exact DataW.trod_lt m _ _ _ hm
  obtain ⟨fuel0, hf0⟩ := h0
  obtain ⟨l0, ⟨A0, c0, hcs0, hle0, hC0⟩, hm0, hq0⟩ := (reads_slice Try.underlying42 (by kernel_rfl) (reads_k45 W) : Reads Try.prog W (Kd.slice 45 k45) _ 42) H enc fuel0 _ _ hf0
  simp [Value.cells] at hcs0
  obtain ⟨rfl, rfl, rfl⟩ := hcs0
  obtain ⟨a1, len1, cap1, rfl⟩ := okWide_slice Try.underlying42 (hval 1 42 v1 rfl rfl)
  have k1_ := h1
  have lt1 : ∀ x ∈ p1, x.block < W.heap.size := by obtain ⟨m, hm⟩ := k1_; exact DataW.trod_lt m _ _ _ hm
  obtain ⟨fuel1, hf1⟩ := h1
  obtain ⟨l1, ⟨A1, c1, hcs1, hle1, hC1⟩, hm1, hq1⟩ := (reads_slice Try.underlying42 (by kernel_rfl) (reads_k45 W) : Reads Try.prog W (Kd.slice 45 k45) _ 42) H enc fuel1 _ _ hf1
  simp [Value.cells] at hcs1
  obtain ⟨rfl, rfl, rfl⟩ := hcs1
  clear hA0 hval0 hsz0 hsz
  obtain ⟨k, hk⟩ := Pure.AddrsetEvaluates l0 l1 hm0 hq0 hm1 hq1
  refine (intrusionlaw07_AddrsetEvaluates.calls k _ _ l0 _ _ l1 true W hC0 hle0 hC1 hle1 hk).mono fun e W' he => ?_
  obtain ⟨rfl, bel⟩ := he
  exact ⟨_, rfl, _, _, _, [], _, [], hW', trodAll_mk1 (shut_bool Try.underlying4 _), (trodAll_cons_mk (Below.trod laidOut (by kernel_rfl) (of_decide_eq_true (by kernel_rfl)) k0_ bel lt0) (trodAll_cons_mk (Below.trod laidOut (by kernel_rfl) (of_decide_eq_true (by kernel_rfl)) k1_ bel lt1) trodAll_mk0)), rfl, bel.frame _, fun h => by cases h⟩
theorem over : Rows.addrsetEvaluatesRow.holds Try.pinned (OpenSpec.ofChange Rows.addrsetEvaluatesSpec) :=
  OpenClaim.holds_of_wide 11 Try.f11 rfl rfl rfl rfl rfl rfl rfl ⟨rfl, rfl, rfl, rfl, rfl⟩ rfl rfl rfl rfl rfl (by kernel_rfl) Try.func11 (by kernel_rfl)
    (of_decide_eq_true (by kernel_rfl)) (by unfold Func.isWrapper; first | (rw [if_pos (by decide +kernel)]; kernel_rfl) | (rw [if_neg (by decide +kernel)]; exact ⟨rfl, rfl⟩))
    (fun os started H enc _ => lifted os started H enc)
theorem proved : Rows.AddrsetEvaluatesSaid := over
#print axioms proved
end Go.Proofs.Ytcgfpffgiimgmaa.addrsetEvaluates
namespace Go.Proofs.Ytcgfpffgiimgmaa
theorem addrsetEvaluates_holds : Rows.AddrsetEvaluatesSaid := addrsetEvaluates.proved
end Go.Proofs.Ytcgfpffgiimgmaa
end
