/-
  Contracts of Go functions, each walked operation by operation: swage/dead.once, swage/ir.Copy, swage/dead.Dead.
  Conditions: as each statement says.
-/
import Derived.Test.YtdniefnjgkhkeaaDoorVf
import Derived.Test.YtdniefnjgkhkeaaDoorProg
import Derived.Test.YtdniefnjgkhkeaaDoorC1
import Derived.Test.YtdniefnjgkhkeaaDoorC2
import Derived.Test.YtdniefnjgkhkeaaDoorC3
import Derived.Test.YtdniefnjgkhkeaaDoorC4
import Derived.Test.YtdniefnjgkhkeaaDoorC5
import Derived.Test.YtdniefnjgkhkeaaDoorC6
import Derived.Test.YtdniefnjgkhkeaaDoorC7
import Derived.Test.YtdniefnjgkhkeaaDoorC8
import Derived.Test.YtdniefnjgkhkeaaDoorV2
import Derived.Test.YtdniefnjgkhkeaaDoorC9
import Derived.Test.YtdniefnjgkhkeaaDoorC10
import Derived.Test.YtdniefnjgkhkeaaDoorV3
import Derived.Test.YtdniefnjgkhkeaaDoorC11
import Derived.Test.YtdniefnjgkhkeaaDoorC12
import Derived.Test.YtdniefnjgkhkeaaDoorC13
import Derived.Test.YtdniefnjgkhkeaaDoorC14
import Derived.Test.YtdniefnjgkhkeaaDoorV4
import Derived.Test.YtdniefnjgkhkeaaDoorC15
import Derived.Test.YtdniefnjgkhkeaaDoorV5
import Derived.Test.YtdniefnjgkhkeaaDoorC16
import Derived.Test.YtdniefnjgkhkeaaDoorA1
import Derived.Test.YtdniefnjgkhkeaaDoorAu
namespace Go.Proofs.YtdniefnjgkhkeaaDoor
open Go
set_option maxRecDepth 100000
set_option linter.unusedVariables false
set_option linter.unusedSimpArgs false
theorem tcall_14 : cl Tryd.prog 14 := ⟨_, Tryd.func14, by kernel_rfl, by kernel_rfl⟩
theorem tcall_15 : cl Tryd.prog 15 := ⟨_, Tryd.func15, by kernel_rfl, by kernel_rfl⟩
theorem tcall_23 : cl Tryd.prog 23 := ⟨_, Tryd.func23, by kernel_rfl, by kernel_rfl⟩
theorem tcall_24 : cl Tryd.prog 24 := ⟨_, Tryd.func24, by kernel_rfl, by kernel_rfl⟩
theorem tcall_25 : cl Tryd.prog 25 := ⟨_, Tryd.func25, by kernel_rfl, by kernel_rfl⟩
theorem tcall_26 : cl Tryd.prog 26 := ⟨_, Tryd.func26, by kernel_rfl, by kernel_rfl⟩
theorem tcall_27 : cl Tryd.prog 27 := ⟨_, Tryd.func27, by kernel_rfl, by kernel_rfl⟩
theorem tn_25 : (Tryd.prog.info? 25).map (·.size) = some 1 := by kernel_rfl
theorem tn_26 : (Tryd.prog.info? 26).map (·.size) = some 1 := by kernel_rfl
theorem tn_28 : (Tryd.prog.info? 28).map (·.size) = some 4 := by kernel_rfl
theorem tn_36 : (Tryd.prog.info? 36).map (·.size) = some 1 := by kernel_rfl
theorem tz_28 : zeroOf Tryd.prog 28 = some (.agg #[.int .i64 0, .int .i64 0, .slice none 0 0, .slice none 0 0]) := by kernel_rfl
def s_once_L1 (n : Nat) (c : CodeD) (l72 : List Int) : Nat → (List Ir) → Bool → Int → Option (Bool × CodeD)
  | 0, _, _, _ => none
  | fu222 + 1, l217, y219, x220 => cond (decide (x220 < (l72.length : Int))) (cond (inb x220 l72.length) (cond (inb (nth l72 x220.toNat) l217.length) (s_once_L1 n c l72 fu222 (l217.set ((nth l72 x220.toNat).toNat) (⟨0, 0, 0, 0, 0, ([] : List Int), (nth l217 ((nth l72 x220.toNat).toNat)).cost, 0, (nth l217 ((nth l72 x220.toNat).toNat)).pc⟩ : Ir)) true (wI (x220 + 1))) none) none) (some (y219, (⟨c.fn, c.regs, l217, c.metas⟩ : CodeD)))
def s_once_L0 (n : Nat) (c : CodeD) (v35 : (List (List Bool))) : Nat → (List Int) → Int → Option (Bool × CodeD)
  | 0, _, _ => none
  | fu76 + 1, l72, x74 => cond (decide (x74 < (c.code.length : Int))) (andj (cond (inb x74 c.code.length) (cond (dropsB (nth c.code x74.toNat)) ((s_after n c v35 x74).bind fun v124 => cond (inb ((nth c.code x74.toNat).r) v124.length) (cond (!(nth v124 (((nth c.code x74.toNat).r).toNat))) (cond (room (l72.length + 1) 8) (some (.inl (l72 ++ [x74]))) none) (some (.inl l72))) none) (some (.inl l72))) none) fun l97 => s_once_L0 n c v35 fu76 l97 (wI (x74 + 1))) (s_once_L1 n c l72 n c.code false 0)
def s_once (n : Nat) (c : CodeD) : Option (Bool × CodeD) := (s_live n c).bind fun v35 => s_once_L0 n c v35 n ([] : List Int) 0
set_option maxHeartbeats 6400000 in
theorem c_once {n : Nat} {p_c : Nat} {b1 : Option Addr} {c2 : Nat} {rs3 : List (Nat × Obj)} {b5 : Option Addr} {c6 : Nat} (c : CodeD) {r : Bool × CodeD} {w : World} {M : Mem} {bs : List (Nat × Obj)} (r4 : Rw M rs3 b1 c2 c.code) (s7 : RdS M b5 c6 c.metas) (hs : s_once n c = some r) (hO : Own w M ([(p_c, .cells #[.int .i64 c.fn, .int .i64 c.regs, .slice b1 c.code.length c2, .slice b5 c.metas.length c6] 28)] ++ (rs3 ++ bs))) :
    Calls Tryd.prog 15 #[.pointer (some ⟨p_c, 0, none⟩)] w (fun e w' => ∃ M' : Mem, ∃ b8 : Option Addr, ∃ c9 : Nat, ∃ rs10 : List (Nat × Obj), ∃ b12 : Option Addr, ∃ c13 : Nat, Mem.le M M' ∧ Own w' M' ([(p_c, .cells #[.int .i64 r.2.fn, .int .i64 r.2.regs, .slice b8 r.2.code.length c9, .slice b12 r.2.metas.length c13] 28)] ++ (rs10 ++ bs)) ∧ e = .returned (.bool r.1) ∧ Rw M' rs10 b8 c9 r.2.code ∧ RdS M' b12 c13 r.2.metas) := by
 unfold s_once at hs
 refine ce (vs := [.pointer (some ⟨p_c, 0, none⟩)]) (n := 72) Tryd.func15 rfl rfl rfl (cq (cr (as_ hO rfl rfl (rj (et (cq (cr (as_ hO rfl rfl (rj ?_)))))))))
 refine et (cq (cr (mv hO rfl rfl ?_)))
 have hO := hO.front1
 obtain ⟨M15, le16, hO, hk17, hn18, hd19⟩ := Own.keeps (rs := rs3) hO
 have r20 := r4.mono le16
 have s21 := s7.mono le16
 have hle22 := le16
 obtain ⟨M23, le24, hO, hk25, hn26, hd27⟩ := Own.keeps (rs := [(p_c, .cells #[.int .i64 c.fn, .int .i64 c.regs, .slice b1 c.code.length c2, .slice b5 c.metas.length c6] 28)]) hO
 have r28 := r20.mono le24
 have s29 := s21.mono le24
 have hk30 := hk17.mono le24
 have hk31 := hk17.mono le24
 have hle32 := m_ hle22 le24
 have kl33 := m_ le16 le24
 have at34 := Has.at (vs := [.int .i64 c.fn, .int .i64 c.regs, .slice b1 c.code.length c2, .slice b5 c.metas.length c6]) hk25 rfl
 obtain ⟨v35, hv36, hs⟩ := bind_s hs
 refine rd' tz (oc (vs := [.pointer (some ⟨p_c, 0, none⟩)]) tcall_22 rfl rfl (c_live c ⟨_, at34, ⟨b1, c2, b5, c6, rfl, (Rw.kept r28 hk30 (mr _)), s29⟩⟩ hv36 hO) ?_)
 rintro _ w37 ⟨M38, b40, c41, rs42, le39, hO, rfl, r43⟩
 refine ⟨_, rfl, ?_⟩
 have r44 := r28.mono le39
 have s45 := s29.mono le39
 have hk46 := hk30.mono le39
 have hk47 := hk31.mono le39
 have hk48 := hk25.mono le39
 have at49 := at34.mono le39
 have hle50 := m_ hle32 le39
 have kl51 := m_ kl33 le39
 have kl52 := m_ le24 le39
 have hO : Own _ M38 (rs42 ++ bs) := hO
 refine as_ hO rfl rfl (rj (et (cq (cr (as_ hO rfl rfl (rj (et (cq (cq ?_)))))))))
 refine cr (mv hO rfl rfl (nc hO rfl rfl (fb 2 tf_28_2 rfl hO rfl rfl (lc tl_25 at49 2 rfl hO rfl rfl (ln ts_25 hO rfl rfl (mv hO rfl rfl (rj (et (cb ?_)))))))))
 obtain ⟨M53, le54, hO, hk55, hn56, hd57⟩ := Own.keeps (rs := rs42) hO
 have r58 := r43.mono le54
 have r59 := r44.mono le54
 have s60 := s45.mono le54
 have hk61 := hk46.mono le54
 have hk62 := hk47.mono le54
 have hk63 := hk48.mono le54
 have at64 := at49.mono le54
 have hle65 := m_ hle50 le54
 have kl66 := m_ kl51 le54
 have kl67 := m_ kl52 le54
 have hO : Own w37 M53 ([] ++ bs) := hO
 refine ci (fun m78 E' w' => ∃ Mi68 : Mem, ∃ b69 : Option Addr, ∃ c70 : Nat, ∃ rs71 : List (Nat × Obj), ∃ l72 : List Int, ∃ x74 : Int, E' = [(0, .pointer (some ⟨p_c, 0, none⟩)), (2, .bool false), (3, .bool false), (4, .slice b40 v35.length c41), (5, .slice b69 l72.length c70), (17, .int .i64 (c.code.length : Int)), (18, .int .i64 x74)] ∧ Mem.le M53 Mi68 ∧ Rw Mi68 rs71 b69 c70 l72 ∧ s_once_L0 n c v35 m78 l72 x74 = some r ∧ Own w' Mi68 (rs71 ++ bs)) (m0 := n) ⟨M53, none, 0, [], ([] : List Int), 0, rfl, (mr _), (Rw.nil _), hs, hO⟩ ⟨rfl, rfl, rfl, rfl, rfl, rfl, rfl, tz⟩ ?_
 rintro fu76 _ w77 ⟨Mi68, b69, c70, rs71, l72, x74, rfl, le75, r73, hs, hO⟩
 rcases fu76 with _ | fu76
 ·
  simp [s_once_L0] at hs
 rw [s_once_L0] at hs
 have r79 := r58.mono le75
 have r80 := r59.mono le75
 have s81 := s60.mono le75
 have hk82 := hk61.mono le75
 have hk83 := hk62.mono le75
 have hk84 := hk63.mono le75
 have at85 := at64.mono le75
 have hk86 := hk55.mono le75
 have hk87 := hk55.mono le75
 have hle88 := m_ hle65 le75
 have kl89 := m_ kl66 le75
 have kl90 := m_ kl67 le75
 have kl91 := m_ le54 le75
 refine cq (cr (ry hO rfl (yv tz rfl rfl) (rj (et (cq (cd rfl (fun h92 => ?_) (fun h92 => ?_)))))))
 ·
  replace hs := cond_t h92 hs
  refine cp (et (cq ?_))
  obtain ⟨o100, hs, hj102⟩ := andj_s hs
  refine cg_join (fun E' w' => ∃ Mi93 : Mem, ∃ b94 : Option Addr, ∃ c95 : Nat, ∃ rs96 : List (Nat × Obj), ∃ l97 : List Int, E' = [(0, .pointer (some ⟨p_c, 0, none⟩)), (2, .bool false), (3, .bool false), (4, .slice b40 v35.length c41), (5, .slice b94 l97.length c95), (17, .int .i64 (c.code.length : Int)), (18, .int .i64 x74)] ∧ Mem.le Mi68 Mi93 ∧ Rw Mi93 rs96 b94 c95 l97 ∧ o100 = .inl l97 ∧ Own w' Mi93 (rs96 ++ bs)) ?_ ?_
  ·
   have le105 := mr Mi68
   refine cb (cq (cr (mv hO rfl rfl (as_ hO rfl rfl (rj (et (cq (cr (mv hO rfl rfl ?_)))))))))
   refine nc hO rfl rfl (fb 2 tf_28_2 rfl hO rfl rfl (lc tl_25 at85 2 rfl hO rfl rfl (mv hO rfl rfl ?_)))
   obtain ⟨hg106, hs⟩ := grd hs
   have s107 := Rw.kept r80 hk82 (mr _)
   obtain ⟨p108, rfl, _⟩ := RdS.get s107 x74.toNat (by exact ib hg106)
   have hO : Own w77 Mi68 (rs71 ++ bs) := by assumption
   have s110 := Rw.kept r80 hk82 (mr _)
   have q109 : PAt Mi68 (p108.add (x74.toNat * 9)) (nth c.code x74.toNat) := RdS.at s110 x74.toNat (by exact ib hg106)
   refine ry hO rfl (yi ts_25 tz rfl rfl (by exact inb_0 hg106) (by exact inb_lt hg106)) (as_ hO rfl rfl (rj (ez (E' := [(0, .pointer (some ⟨p_c, 0, none⟩)), (2, .bool false), (3, .bool false), (4, .slice b40 v35.length c41), (5, .slice b69 l72.length c70), (17, .int .i64 (c.code.length : Int)), (18, .int .i64 x74), (6, .int .i64 x74), (7, .pointer (some (p108.add (x74.toNat * 9))))]) ⟨rfl, rfl, rfl, rfl, rfl, rfl, rfl, rfl, rfl, tz⟩ (et (cq ?_)))))
   rcases bt (dropsB (nth c.code x74.toNat)) with h113 | h113
   ·
    replace hs := cond_t h113 hs
    obtain ⟨w114, hO, ew115⟩ : ∃ w', Own w' Mi68 (rs71 ++ bs) ∧ { w77 with drawn := w77.drawn + 1 } = w' := ⟨_, hO.drawn _, rfl⟩
    refine cw (S := fun w => Own w Mi68 (rs71 ++ bs)) (.take 0 (.one 1 (.take 2 (.take 3 (.take 4 (.take 5 (.take 7 (.take 8 (.take 9 (.take 10 (.one 6 (.take 11 (.one 12 (.take 13 (.take 14 .done))))))))))))))) 15 tm (by kernel_rfl) ew115 hO (hm rfl rfl (fun _ _ _ h => h) rfl ?_)
    refine hn' rfl tz (oc (vs := [.pointer (some (p108.add (x74.toNat * 9)))]) tcall_27 rfl rfl (c_drops (nth c.code x74.toNat) q109 hO) ?_)
    rintro _ w116 ⟨M117, _, le118, hO, rfl, rfl⟩
    refine ⟨_, rfl, ?_⟩
    have hO := hO.less le118
    refine kg_s hO (hm rfl rfl (fun _ _ _ h => h) rfl (gy rfl rfl (fun _ _ _ h => h) (ym (by rw [h113]; rfl) rfl) (gy rfl rfl (fun _ _ _ h => h) (ym (by rw [h113]; rfl) rfl) (gy rfl rfl (fun _ _ _ h => h) (ym (by rw [h113]; rfl) rfl) (gy rfl rfl (fun _ _ _ h => h) (ym (by rw [h113]; rfl) rfl) (gy rfl rfl (fun _ _ _ h => h) (yn (by rw [h113]; rfl) rfl) (gy rfl rfl (fun _ _ _ h => h) (ya tf_38_1 (by rw [h113]; rfl) rfl) ?_)))))))
    obtain ⟨_, at122, b119, c120, rfl, s121⟩ := id q109
    refine gy rfl rfl (fun _ _ _ h => h) (yl tl_3 (by rw [h113]; rfl) rfl (fun _ h => at122.cell h 1 rfl)) ?_
    have s123 := Rw.kept r79 hk86 (mr _)
    obtain ⟨v124, hv125, hs⟩ := bind_s hs
    refine hn' rfl (by rw [h113]; rfl) (oc (vs := [.pointer (some ⟨p_c, 0, none⟩), .slice b40 v35.length c41, .int .i64 x74]) tcall_28 rfl rfl (c_after c v35 x74 ⟨_, at85, ⟨some p108, c2, b5, c6, rfl, (Rw.kept r80 hk82 (mr _)), s81⟩⟩ s123 hv125 hO) ?_)
    rintro _ w126 ⟨M127, b129, c130, rs131, le128, hO, rfl, r132⟩
    refine ⟨_, rfl, ?_⟩
    have r133 := r79.mono le128
    have r134 := r73.mono le128
    have q135 := q109.mono le128
    have at136 := at122.mono le128
    have s137 := s121.mono le128
    have r138 := r80.mono le128
    have s139 := s81.mono le128
    have hk140 := hk82.mono le128
    have hk141 := hk83.mono le128
    have hk142 := hk84.mono le128
    have at143 := at85.mono le128
    have hk144 := hk86.mono le128
    have hk145 := hk87.mono le128
    have hle146 := m_ hle88 le128
    have ch147 := m_ le75 le128
    have ch148 := m_ le105 le128
    have kl149 := m_ kl89 le128
    have kl150 := m_ kl90 le128
    have kl151 := m_ kl91 le128
    have hO : Own _ M127 (rs131 ++ (rs71 ++ bs)) := hO
    refine kg_s (hO.forget.less le128) ?_
    obtain ⟨hg152, hs⟩ := grd hs
    obtain ⟨b153, o154, rfl⟩ := Rw.ofs r132 (i := ((nth c.code x74.toNat).r).toNat) (by exact ib hg152)
    have hO : Own w126 M127 (rs131 ++ (rs71 ++ bs)) := by assumption
    refine gy rfl rfl (fun _ _ _ h => h) (yi ts_50 (by rw [h113]; rfl) rfl rfl (by exact inb_0 hg152) (by exact inb_lt hg152)) ?_
    obtain ⟨vs155, hr156, hc157⟩ := Rw.cells (t := rs71 ++ bs) r132 (((nth c.code x74.toNat).r).toNat) (by exact ib hg152)
    obtain rfl := hr156
    refine hg_oneY (S' := fun w => Own w M127 (rs131 ++ (rs71 ++ bs))) rfl rfl (yl tl_4 (by rw [h113]; rfl) rfl (fun w h => hc157 w h 0 _ rfl)) (by rw [h113]; rfl) hO (kg_s (hO.forget.less le128) (gy rfl rfl (fun _ _ _ h => h) (yt (by rw [h113]; rfl) rfl) (gy rfl rfl (fun _ _ _ h => h) (pt tz (by rw [h113]; rfl) rfl) (gd (ez (E' := [(0, .pointer (some ⟨p_c, 0, none⟩)), (2, .bool false), (3, .bool false), (4, .slice b40 v35.length c41), (5, .slice b69 l72.length c70), (17, .int .i64 (c.code.length : Int)), (18, .int .i64 x74), (6, .int .i64 x74), (41, .bool (!(nth v124 (((nth c.code x74.toNat).r).toNat))))]) ⟨rfl, rfl, rfl, rfl, rfl, rfl, rfl, rfl, rfl, tz⟩ (et (cd rfl (fun h158 => ?_) (fun h158 => ?_))))))))
    ·
     replace hs := cond_t h158 hs
     have h159 : (nth v124 (((nth c.code x74.toNat).r).toNat)) = false := not_t h158
     refine cr (mv hO rfl rfl (mv hO rfl rfl (rd' tz (og (vs := [.int .i64 x74]) (cs := [.int .i64 x74]) (e := 3) hO rfl rfl (fun _ => by kernel_rfl) (fun b160 w161 hO => ?_)))))
     have hO : Own _ M127 ([(b160, .cells #[.int .i64 x74] 3)] ++ (rs131 ++ (rs71 ++ bs))) := hO
     obtain ⟨hg162, hs⟩ := grd hs
     have hO := hO.front2
     have hO := hO.front1
     have hO : Own _ M127 ([(b160, .cells #[.int .i64 x74] 3)] ++ (rs71 ++ (rs131 ++ bs))) := hO
     refine rd' tz (og_append1 (α := Int) (rs := rs71) (us := [.int .i64 x74]) (x := x74) tv_36 rfl rfl hO r134 rfl rfl rfl rfl (by exact room_le hg162) (by decide) (by exact room_k hg162 (by decide)) (fun rs163 b164 c165 w166 hO r167 => ?_))
     refine as_ hO rfl rfl (rj (ek' ?_))
     have hO := hO.front1
     have hO := hO.forget
     exact ej' ⟨M127, b164, c165, rs163, (l72 ++ [x74]), rfl, ch148, r167, inl_s hs, hO⟩ ⟨rfl, rfl, rfl, rfl, rfl, rfl, rfl, tz⟩
    replace hs := cond_f h158 hs
    have h168 : (nth v124 (((nth c.code x74.toNat).r).toNat)) = true := not_f h158
    refine cp (ek' ?_)
    have hO := hO.forget
    exact ej' ⟨M127, b69, c70, rs71, l72, rfl, ch148, r134, inl_s hs, hO⟩ ⟨rfl, rfl, rfl, rfl, rfl, rfl, rfl, tz⟩
   replace hs := cond_f h113 hs
   obtain ⟨w169, hO, ew170⟩ : ∃ w', Own w' Mi68 (rs71 ++ bs) ∧ { w77 with drawn := w77.drawn + 1 } = w' := ⟨_, hO.drawn _, rfl⟩
   refine cw (S := fun w => Own w Mi68 (rs71 ++ bs)) (.take 0 (.one 1 (.take 2 (.take 3 (.take 4 (.take 5 (.take 7 (.take 8 (.take 9 (.take 10 (.take 6 (.take 11 (.take 12 (.take 13 (.take 14 .done))))))))))))))) 15 tm (by kernel_rfl) ew170 hO (hm rfl rfl (fun _ _ _ h => h) rfl ?_)
   refine hn' rfl tz (oc (vs := [.pointer (some (p108.add (x74.toNat * 9)))]) tcall_27 rfl rfl (c_drops (nth c.code x74.toNat) q109 hO) ?_)
   rintro _ w171 ⟨M172, _, le173, hO, rfl, rfl⟩
   refine ⟨_, rfl, ?_⟩
   have hO := hO.less le173
   refine kg_s hO (hm rfl rfl (fun _ _ _ h => h) rfl (gy rfl rfl (fun _ _ _ h => h) (ek (by rw [h113]; rfl)) (gy rfl rfl (fun _ _ _ h => h) (ek (by rw [h113]; rfl)) (gy rfl rfl (fun _ _ _ h => h) (ek (by rw [h113]; rfl)) (gy rfl rfl (fun _ _ _ h => h) (ek (by rw [h113]; rfl)) (gy rfl rfl (fun _ _ _ h => h) (ek (by rw [h113]; rfl)) (gy rfl rfl (fun _ _ _ h => h) (ek (by rw [h113]; rfl)) (gy rfl rfl (fun _ _ _ h => h) (ek (by rw [h113]; rfl)) (gy rfl rfl (fun _ _ _ h => h) (ek (by rw [h113]; rfl)) ?_)))))))))
   refine gy rfl rfl (fun _ _ _ h => h) (ek (by rw [h113]; rfl)) (gy rfl rfl (fun _ _ _ h => h) (ek (by rw [h113]; rfl)) (gy rfl rfl (fun _ _ _ h => h) (ek (by rw [h113]; rfl)) (gy rfl rfl (fun _ _ _ h => h) (pf tz (by rw [h113]; rfl) rfl) (gd (ez (E' := [(0, .pointer (some ⟨p_c, 0, none⟩)), (2, .bool false), (3, .bool false), (4, .slice b40 v35.length c41), (5, .slice b69 l72.length c70), (17, .int .i64 (c.code.length : Int)), (18, .int .i64 x74), (6, .int .i64 x74), (41, .bool false)]) ⟨rfl, rfl, rfl, rfl, rfl, rfl, rfl, rfl, rfl, tz⟩ (et (cj rfl (cp (ek' ?_)))))))))
   exact ej' ⟨Mi68, b69, c70, rs71, l72, rfl, le105, r73, inl_s hs, hO⟩ ⟨rfl, rfl, rfl, rfl, rfl, rfl, rfl, tz⟩
  rintro _ w104 ⟨Mi93, b94, c95, rs96, l97, rfl, le99, r98, ho103, hO⟩
  replace hs := Aft.l hj102 ho103
  try dsimp only at hs
  have r174 := r79.mono le99
  have r175 := r80.mono le99
  have s176 := s81.mono le99
  have hk177 := hk82.mono le99
  have hk178 := hk83.mono le99
  have hk179 := hk84.mono le99
  have at180 := at85.mono le99
  have hk181 := hk86.mono le99
  have hk182 := hk87.mono le99
  have hle183 := m_ hle88 le99
  have ch184 := m_ le75 le99
  have kl185 := m_ kl89 le99
  have kl186 := m_ kl90 le99
  have kl187 := m_ kl91 le99
  exact et (cr (ry hO rfl (y_add (wI (x74 + 1)) tz rfl rfl rfl) (mv hO rfl rfl (rj (eo ⟨Mi93, b94, c95, rs96, l97, wI (x74 + 1), rfl, ch184, r98, hs, hO⟩ ⟨rfl, rfl, rfl, rfl, rfl, rfl, rfl, tz⟩ (Nat.lt_succ_self _))))))
 replace hs := cond_f h92 hs
 refine cx (eh (eh (ej (et (cq (cq (cr (mv hO rfl rfl (ln ts_36 hO rfl rfl ?_)))))))))
 refine mv hO rfl rfl (rj (et (cb ?_)))
 obtain ⟨M188, le189, hO⟩ := Own.unkeeps hO hk86 hn56 hd57 kl91
 have r190 := r44.mono le189
 have s191 := s45.mono le189
 have hk192 := hk46.mono le189
 have hk193 := hk47.mono le189
 have hk194 := hk48.mono le189
 have at195 := at49.mono le189
 have hle196 := m_ hle50 le189
 have kl197 := m_ kl51 le189
 have kl198 := m_ kl52 le189
 have r199 : Rw M188 rs71 b69 c70 l72 := Rw.intM r73
 obtain ⟨M200, le201, hO⟩ := Own.unkeeps hO hk194 hn26 hd27 kl198
 have r202 := r20.mono le201
 have s203 := s21.mono le201
 have hk204 := hk17.mono le201
 have hk205 := hk17.mono le201
 have hle206 := m_ hle22 le201
 have kl207 := m_ le16 le201
 have r208 : Rw M200 rs71 b69 c70 l72 := Rw.intM r199
 obtain ⟨M209, le210, hO⟩ := Own.unkeeps hO hk204 hn18 hd19 kl207
 have r211 := r4.mono le210
 have s212 := s7.mono le210
 have hle213 := le210
 have r214 : Rw M209 rs71 b69 c70 l72 := Rw.intM r208
 refine ci (fun m224 E' w' => ∃ Mi215 : Mem, ∃ rs216 : List (Nat × Obj), ∃ l217 : List Ir, ∃ y219 : Bool, ∃ x220 : Int, E' = [(0, .pointer (some ⟨p_c, 0, none⟩)), (2, .bool false), (3, .bool y219), (47, .slice b69 l72.length c70), (48, .int .i64 (l72.length : Int)), (49, .int .i64 x220)] ∧ Mem.le M209 Mi215 ∧ Rw Mi215 rs216 b1 c2 l217 ∧ s_once_L1 n c l72 m224 l217 y219 x220 = some r ∧ Own w' Mi215 (rs216 ++ ([(p_c, .cells #[.int .i64 c.fn, .int .i64 c.regs, .slice b1 l217.length c2, .slice b5 c.metas.length c6] 28)] ++ (rs42 ++ (rs71 ++ bs))))) (m0 := n) ⟨M209, rs3, c.code, false, 0, rfl, (mr _), r211, hs, hO⟩ ⟨rfl, rfl, rfl, rfl, rfl, rfl, tz⟩ ?_
 rintro fu222 _ w223 ⟨Mi215, rs216, l217, y219, x220, rfl, le221, r218, hs, hO⟩
 rcases fu222 with _ | fu222
 ·
  simp [s_once_L1] at hs
 rw [s_once_L1] at hs
 have r225 := r214.mono le221
 have s226 := s212.mono le221
 have hle227 := m_ hle213 le221
 refine cq (cr (ry hO rfl (yv tz rfl rfl) (rj (et (cq (cd rfl (fun h228 => ?_) (fun h228 => ?_)))))))
 ·
  replace hs := cond_t h228 hs
  refine cp (et (cq (cb (cq (cr ?_)))))
  obtain ⟨hg229, hs⟩ := grd hs
  obtain ⟨b230, o231, rfl⟩ := Rw.ofs r225 (i := x220.toNat) (by exact ib hg229)
  have hO : Own w223 Mi215 (rs216 ++ ([(p_c, .cells #[.int .i64 c.fn, .int .i64 c.regs, .slice b1 l217.length c2, .slice b5 c.metas.length c6] 28)] ++ (rs42 ++ (rs71 ++ bs)))) := by assumption
  refine ry hO rfl (yi ts_36 tz rfl rfl (by exact inb_0 hg229) (by exact inb_lt hg229)) ?_
  obtain ⟨vs232, hr233, hc234⟩ := Rw.cells (t := rs216 ++ ([(p_c, .cells #[.int .i64 c.fn, .int .i64 c.regs, .slice b1 l217.length c2, .slice b5 c.metas.length c6] 28)] ++ (rs42 ++ bs))) r225 x220.toNat (by exact ib hg229)
  obtain rfl := hr233
  refine ry hO rfl (yl tl_3 tz rfl (fun w h => hc234 w (h.front3) 0 _ rfl)) (as_ hO rfl rfl (rj (et (cq (cr (mv hO rfl rfl (nc hO rfl rfl (fb 2 tf_28_2 rfl hO rfl rfl (ry hO rfl (yl tl_25 tz rfl (fun _ h => ob (h.front1) 0 2 rfl rfl)) ?_)))))))))
  refine mv hO rfl rfl ?_
  obtain ⟨hg235, hs⟩ := grd hs
  obtain ⟨b236, o237, rfl⟩ := Rw.ofs r218 (i := (nth l72 x220.toNat).toNat) (by exact ib hg235)
  have hO : Own w223 Mi215 (rs216 ++ ([(p_c, .cells #[.int .i64 c.fn, .int .i64 c.regs, .slice (some ⟨b236, o237, none⟩) l217.length c2, .slice b5 c.metas.length c6] 28)] ++ (rs42 ++ (rs71 ++ bs)))) := by assumption
  refine ry hO rfl (yi ts_25 tz rfl rfl (by exact inb_0 hg235) (by exact inb_lt hg235)) (as_ hO rfl rfl (rj (ez (E' := [(0, .pointer (some ⟨p_c, 0, none⟩)), (2, .bool false), (3, .bool y219), (47, .slice (some ⟨b230, o231, none⟩) l72.length c70), (48, .int .i64 (l72.length : Int)), (49, .int .i64 x220), (10, .pointer (some ((⟨b236, o237, none⟩ : Addr).add (((nth l72 x220.toNat).toNat) * 9))))]) ⟨rfl, rfl, rfl, rfl, rfl, rfl, rfl, tz⟩ (et (cq ?_)))))
  obtain ⟨w238, hO, ew239⟩ : ∃ w', Own w' Mi215 (rs216 ++ ([(p_c, .cells #[.int .i64 c.fn, .int .i64 c.regs, .slice (some ⟨b236, o237, none⟩) l217.length c2, .slice b5 c.metas.length c6] 28)] ++ (rs42 ++ (rs71 ++ bs)))) ∧ { w223 with drawn := w223.drawn + 1 } = w' := ⟨_, hO.drawn _, rfl⟩
  refine cw (S := fun w => Own w Mi215 ([(p_c, .cells #[.int .i64 c.fn, .int .i64 c.regs, .slice (some ⟨b236, o237, none⟩) l217.length c2, .slice b5 c.metas.length c6] 28)] ++ (rs42 ++ (rs71 ++ bs)))) (.take 0 (.take 1 (.take 2 (.take 3 (.take 5 (.take 6 (.take 7 (.two 4 8 (.one 8 (.take 9 (.take 10 (.last 11)))) (.one 4 (.take 9 (.take 10 (.last 11)))))))))))) 11 tm (by kernel_rfl) ew239 hO.forget (hm rfl rfl (fun _ _ _ h => h) rfl (hm rfl rfl (fun _ _ _ h => h) rfl (hn rfl rfl (fun _ _ _ h => h) rfl (hfa tf_38_6 rfl rfl (fun _ _ _ h => h) rfl (hm rfl rfl (fun _ _ _ h => h) rfl (hn rfl rfl (fun _ _ _ h => h) rfl (hfa tf_38_8 rfl rfl (fun _ _ _ h => h) rfl ?_)))))))
  refine hg_two ?_ ?_
  ·
   obtain ⟨vs240, hr241, hc242⟩ := Rw.cells (t := [(p_c, .cells #[.int .i64 c.fn, .int .i64 c.regs, .slice (some ⟨b236, o237, none⟩) l217.length c2, .slice b5 c.metas.length c6] 28)] ++ (rs42 ++ (rs71 ++ bs))) r218 ((nth l72 x220.toNat).toNat) (by exact ib hg235)
   obtain ⟨b243, c244, rfl, s245⟩ := hr241
   refine hg_oneY (S' := fun w => Own w Mi215 (rs216 ++ ([(p_c, .cells #[.int .i64 c.fn, .int .i64 c.regs, .slice (some ⟨b236, o237, none⟩) l217.length c2, .slice b5 c.metas.length c6] 28)] ++ (rs42 ++ (rs71 ++ bs))))) rfl rfl (yl tl_3 tz rfl (fun w h => hc242 w h 6 _ rfl)) tz hO (kg_s hO.forget ?_)
   obtain ⟨vs246, hr247, hc248⟩ := Rw.cells (t := [(p_c, .cells #[.int .i64 c.fn, .int .i64 c.regs, .slice (some ⟨b236, o237, none⟩) l217.length c2, .slice b5 c.metas.length c6] 28)] ++ (rs42 ++ (rs71 ++ bs))) r218 ((nth l72 x220.toNat).toNat) (by exact ib hg235)
   obtain ⟨b249, c250, rfl, s251⟩ := hr247
   refine hg_oneY (S' := fun w => Own w Mi215 (rs216 ++ ([(p_c, .cells #[.int .i64 c.fn, .int .i64 c.regs, .slice (some ⟨b236, o237, none⟩) l217.length c2, .slice b5 c.metas.length c6] 28)] ++ (rs42 ++ (rs71 ++ bs))))) rfl rfl (yl tl_3 tz rfl (fun w h => hc248 w h 8 _ rfl)) tz hO (kg_s hO.forget (gy rfl rfl (fun _ _ _ h => h) (y_build [.int .i64 0, .int .i64 ((nth l217 ((nth l72 x220.toNat).toNat)).cost), .int .i64 ((nth l217 ((nth l72 x220.toNat).toNat)).pc)] (.agg #[.int .i64 0, .int .i64 0, .int .i64 0, .int .i64 0, .int .i64 0, .slice none 0 0, .int .i64 ((nth l217 ((nth l72 x220.toNat).toNat)).cost), .int .i64 0, .int .i64 ((nth l217 ((nth l72 x220.toNat).toNat)).pc)]) tz rfl (fun _ => by kernel_rfl)) (hn rfl rfl (fun _ _ _ h => h) rfl ?_)))
   refine hg_last rfl tz (og_storeR (i := ((nth l72 x220.toNat).toNat)) (x := (⟨0, 0, 0, 0, 0, ([] : List Int), (nth l217 ((nth l72 x220.toNat).toNat)).cost, 0, (nth l217 ((nth l72 x220.toNat).toNat)).pc⟩ : Ir)) (vs := [.int .i64 0, .int .i64 0, .int .i64 0, .int .i64 0, .int .i64 0, .slice none 0 0, .int .i64 ((nth l217 ((nth l72 x220.toNat).toNat)).cost), .int .i64 0, .int .i64 ((nth l217 ((nth l72 x220.toNat).toNat)).pc)]) hO r218 (by exact ib hg235) tn_38 rfl rfl ⟨none, 0, rfl, (RdS.nil _ _ _)⟩ rfl rfl (fun rs253 w252 hO r254 => ?_))
   have hO : Own w252 Mi215 (rs253 ++ ([(p_c, .cells #[.int .i64 c.fn, .int .i64 c.regs, .slice (some ⟨b236, o237, none⟩) (((l217.set ((nth l72 x220.toNat).toNat) (⟨0, 0, 0, 0, 0, ([] : List Int), (nth l217 ((nth l72 x220.toNat).toNat)).cost, 0, (nth l217 ((nth l72 x220.toNat).toNat)).pc⟩ : Ir))).length) c2, .slice b5 c.metas.length c6] 28)] ++ (rs42 ++ (rs71 ++ bs)))) := by have h_1 := hO; rw [show l217.length = (l217.set ((nth l72 x220.toNat).toNat) (⟨0, 0, 0, 0, 0, ([] : List Int), (nth l217 ((nth l72 x220.toNat).toNat)).cost, 0, (nth l217 ((nth l72 x220.toNat).toNat)).pc⟩ : Ir)).length from Eq.symm List.length_set] at h_1; exact h_1
   refine ez (E' := [(0, .pointer (some ⟨p_c, 0, none⟩)), (2, .bool false), (3, .bool y219), (47, .slice (some ⟨b230, o231, none⟩) l72.length c70), (48, .int .i64 (l72.length : Int)), (49, .int .i64 x220)]) ⟨rfl, rfl, rfl, rfl, rfl, rfl, tz⟩ (et (cr (as_ hO rfl rfl (rj (ek' (et (cr (ry hO rfl (y_add (wI (x220 + 1)) tz rfl rfl rfl) (mv hO rfl rfl ?_)))))))))
   exact rj (eo ⟨Mi215, rs253, (l217.set ((nth l72 x220.toNat).toNat) (⟨0, 0, 0, 0, 0, ([] : List Int), (nth l217 ((nth l72 x220.toNat).toNat)).cost, 0, (nth l217 ((nth l72 x220.toNat).toNat)).pc⟩ : Ir)), true, wI (x220 + 1), rfl, le221, r254, hs, hO⟩ ⟨rfl, rfl, rfl, rfl, rfl, rfl, tz⟩ (Nat.lt_succ_self _))
  obtain ⟨vs240, hr241, hc242⟩ := Rw.cells (t := [(p_c, .cells #[.int .i64 c.fn, .int .i64 c.regs, .slice (some ⟨b236, o237, none⟩) l217.length c2, .slice b5 c.metas.length c6] 28)] ++ (rs42 ++ (rs71 ++ bs))) r218 ((nth l72 x220.toNat).toNat) (by exact ib hg235)
  obtain ⟨b243, c244, rfl, s245⟩ := hr241
  refine hg_oneY (S' := fun w => Own w Mi215 (rs216 ++ ([(p_c, .cells #[.int .i64 c.fn, .int .i64 c.regs, .slice (some ⟨b236, o237, none⟩) l217.length c2, .slice b5 c.metas.length c6] 28)] ++ (rs42 ++ (rs71 ++ bs))))) rfl rfl (yl tl_3 tz rfl (fun w h => hc242 w h 8 _ rfl)) tz hO (kg_s hO.forget ?_)
  obtain ⟨vs246, hr247, hc248⟩ := Rw.cells (t := [(p_c, .cells #[.int .i64 c.fn, .int .i64 c.regs, .slice (some ⟨b236, o237, none⟩) l217.length c2, .slice b5 c.metas.length c6] 28)] ++ (rs42 ++ (rs71 ++ bs))) r218 ((nth l72 x220.toNat).toNat) (by exact ib hg235)
  obtain ⟨b249, c250, rfl, s251⟩ := hr247
  refine hg_oneY (S' := fun w => Own w Mi215 (rs216 ++ ([(p_c, .cells #[.int .i64 c.fn, .int .i64 c.regs, .slice (some ⟨b236, o237, none⟩) l217.length c2, .slice b5 c.metas.length c6] 28)] ++ (rs42 ++ (rs71 ++ bs))))) rfl rfl (yl tl_3 tz rfl (fun w h => hc248 w h 6 _ rfl)) tz hO (kg_s hO.forget (gy rfl rfl (fun _ _ _ h => h) (y_build [.int .i64 0, .int .i64 ((nth l217 ((nth l72 x220.toNat).toNat)).cost), .int .i64 ((nth l217 ((nth l72 x220.toNat).toNat)).pc)] (.agg #[.int .i64 0, .int .i64 0, .int .i64 0, .int .i64 0, .int .i64 0, .slice none 0 0, .int .i64 ((nth l217 ((nth l72 x220.toNat).toNat)).cost), .int .i64 0, .int .i64 ((nth l217 ((nth l72 x220.toNat).toNat)).pc)]) tz rfl (fun _ => by kernel_rfl)) (hn rfl rfl (fun _ _ _ h => h) rfl ?_)))
  refine hg_last rfl tz (og_storeR (i := ((nth l72 x220.toNat).toNat)) (x := (⟨0, 0, 0, 0, 0, ([] : List Int), (nth l217 ((nth l72 x220.toNat).toNat)).cost, 0, (nth l217 ((nth l72 x220.toNat).toNat)).pc⟩ : Ir)) (vs := [.int .i64 0, .int .i64 0, .int .i64 0, .int .i64 0, .int .i64 0, .slice none 0 0, .int .i64 ((nth l217 ((nth l72 x220.toNat).toNat)).cost), .int .i64 0, .int .i64 ((nth l217 ((nth l72 x220.toNat).toNat)).pc)]) hO r218 (by exact ib hg235) tn_38 rfl rfl ⟨none, 0, rfl, (RdS.nil _ _ _)⟩ rfl rfl (fun rs253 w252 hO r254 => ?_))
  have hO : Own w252 Mi215 (rs253 ++ ([(p_c, .cells #[.int .i64 c.fn, .int .i64 c.regs, .slice (some ⟨b236, o237, none⟩) (((l217.set ((nth l72 x220.toNat).toNat) (⟨0, 0, 0, 0, 0, ([] : List Int), (nth l217 ((nth l72 x220.toNat).toNat)).cost, 0, (nth l217 ((nth l72 x220.toNat).toNat)).pc⟩ : Ir))).length) c2, .slice b5 c.metas.length c6] 28)] ++ (rs42 ++ (rs71 ++ bs)))) := by have h_1 := hO; rw [show l217.length = (l217.set ((nth l72 x220.toNat).toNat) (⟨0, 0, 0, 0, 0, ([] : List Int), (nth l217 ((nth l72 x220.toNat).toNat)).cost, 0, (nth l217 ((nth l72 x220.toNat).toNat)).pc⟩ : Ir)).length from Eq.symm List.length_set] at h_1; exact h_1
  refine ez (E' := [(0, .pointer (some ⟨p_c, 0, none⟩)), (2, .bool false), (3, .bool y219), (47, .slice (some ⟨b230, o231, none⟩) l72.length c70), (48, .int .i64 (l72.length : Int)), (49, .int .i64 x220)]) ⟨rfl, rfl, rfl, rfl, rfl, rfl, tz⟩ (et (cr (as_ hO rfl rfl (rj (ek' (et (cr (ry hO rfl (y_add (wI (x220 + 1)) tz rfl rfl rfl) (mv hO rfl rfl ?_)))))))))
  exact rj (eo ⟨Mi215, rs253, (l217.set ((nth l72 x220.toNat).toNat) (⟨0, 0, 0, 0, 0, ([] : List Int), (nth l217 ((nth l72 x220.toNat).toNat)).cost, 0, (nth l217 ((nth l72 x220.toNat).toNat)).pc⟩ : Ir)), true, wI (x220 + 1), rfl, le221, r254, hs, hO⟩ ⟨rfl, rfl, rfl, rfl, rfl, rfl, tz⟩ (Nat.lt_succ_self _))
 replace hs := cond_f h228 hs
 refine cx (eh (eh (ej (et (cq (cr (mv hO rfl rfl (as_ hO rfl rfl (rj ?_)))))))))
 refine et (ct (er (.inl rfl) rfl rfl ?_))
 have hO := hO.front2
 have hO := hO.forget
 have hO := hO.front2
 have hO := hO.forget
 have hO := hO.front1
 obtain rfl := o_ hs
 exact ⟨Mi215, b1, c2, rs216, b5, c6, hle227, hO, rfl, r218, s226⟩

def s_Copy_L1 (n : Nat) (c : CodeD) (l51 : List Ir) : Nat → (List Meta) → Int → Option CodeD
  | 0, _, _ => none
  | fu110 + 1, l106, x108 => cond (decide (x108 < (((c.metas)).length : Int))) (cond (inb x108 l106.length) (s_Copy_L1 n c l51 fu110 (l106.set x108.toNat ((nth l106 x108.toNat))) (wI (x108 + 1))) none) (some (⟨c.fn, c.regs, l51, l106⟩ : CodeD))
def s_Copy_L0 (n : Nat) (c : CodeD) : Nat → (List Ir) → Int → Option CodeD
  | 0, _, _ => none
  | fu55 + 1, l51, x53 => cond (decide (x53 < (((c.code)).length : Int))) (cond (inb x53 l51.length) (s_Copy_L0 n c fu55 (l51.set x53.toNat (⟨(nth l51 x53.toNat).kind, (nth l51 x53.toNat).r, (nth l51 x53.toNat).a, (nth l51 x53.toNat).b, (nth l51 x53.toNat).k, (((nth l51 x53.toNat).args)), (nth l51 x53.toNat).cost, (nth l51 x53.toNat).mt, (nth l51 x53.toNat).pc⟩ : Ir)) (wI (x53 + 1))) none) (s_Copy_L1 n c l51 n (c.metas) 0)
def s_Copy (n : Nat) (c : CodeD) : Option CodeD := s_Copy_L0 n c n (c.code) 0
set_option maxHeartbeats 6400000 in
theorem c_Copy {n : Nat} {p_c : Addr} (c : CodeD) {r : CodeD} {w : World} {M : Mem} {bs : List (Nat × Obj)} (h_c : PAt M p_c c) (hs : s_Copy n c = some r) (hO : Own w M (bs)) :
    Calls Tryd.prog 14 #[.pointer (some p_c)] w (fun e w' => ∃ M' : Mem, ∃ b1 : Option Addr, ∃ c2 : Nat, ∃ rs3 : List (Nat × Obj), ∃ b5 : Option Addr, ∃ c6 : Nat, Mem.le M M' ∧ Own w' M' (rs3 ++ bs) ∧ e = .returned (.agg #[.int .i64 r.fn, .int .i64 r.regs, .slice b1 r.code.length c2, .slice b5 r.metas.length c6]) ∧ Rw M' rs3 b1 c2 r.code ∧ RdS M' b5 c6 r.metas) := by
 unfold s_Copy at hs
 refine ce (vs := [.pointer (some p_c)]) (n := 58) Tryd.func14 rfl rfl rfl (cq (cr (rd' tz (og_alloc hO rfl tz_28 (fun b8 w9 hO => ?_)))))
 have hO : Own _ M ([(b8, .cells #[.int .i64 0, .int .i64 0, .slice none 0 0, .slice none 0 0] 28)] ++ bs) := hO
 refine rj (et (cq (cr (mv hO rfl rfl (nc hO rfl rfl ?_)))))
 obtain ⟨_, at16, b10, c11, b13, c14, rfl, s12, s15⟩ := id h_c
 refine ry hO rfl (yq [.int .i64 c.fn, .int .i64 c.regs, .slice b10 c.code.length c11, .slice b13 c.metas.length c14] ta_28 rfl tz rfl (fun _ h j _ e => at16.cell h j e)) (rd' tz (og_alloc hO rfl tz_28 (fun b17 w18 hO => ?_)))
 have hO : Own _ M ([(b17, .cells #[.int .i64 0, .int .i64 0, .slice none 0 0, .slice none 0 0] 28)] ++ ([(b8, .cells #[.int .i64 0, .int .i64 0, .slice none 0 0, .slice none 0 0] 28)] ++ bs)) := hO
 refine rd' tz (og_storeS (vs := [.int .i64 c.fn, .int .i64 c.regs, .slice b10 c.code.length c11, .slice b13 c.metas.length c14]) hO tn_28 rfl rfl rfl (nb rfl) rfl rfl (fun w19 hO => ?_))
 have hO : Own _ M ([(b17, .cells #[.int .i64 c.fn, .int .i64 c.regs, .slice b10 c.code.length c11, .slice b13 c.metas.length c14] 28)] ++ ([(b8, .cells #[.int .i64 0, .int .i64 0, .slice none 0 0, .slice none 0 0] 28)] ++ bs)) := hO
 refine rj (et (cq ?_))
 obtain ⟨w20, hO, ew21⟩ : ∃ w', Own w' M ([(b17, .cells #[.int .i64 c.fn, .int .i64 c.regs, .slice b10 c.code.length c11, .slice b13 c.metas.length c14] 28)] ++ ([(b8, .cells #[.int .i64 0, .int .i64 0, .slice none 0 0, .slice none 0 0] 28)] ++ bs)) ∧ { w19 with drawn := w19.drawn + 1 } = w' := ⟨_, hO.drawn _, rfl⟩
 refine cw (S := fun w => Own w M ([(b8, .cells #[.int .i64 0, .int .i64 0, .slice none 0 0, .slice none 0 0] 28)] ++ bs)) (.take 0 (.take 1 (.take 2 (.take 3 (.take 5 (.take 6 (.take 7 (.take 8 (.one 4 (.take 10 (.one 9 (.one 11 (.take 12 (.last 13)))))))))))))) 13 tm (by kernel_rfl) ew21 hO.forget (hm rfl rfl (fun _ _ _ h => h) rfl (hn rfl rfl (fun _ _ _ h => h) rfl (hfa tf_28_2 rfl rfl (fun _ _ _ h => h) rfl (hlc tl_25 at16 2 rfl rfl rfl (fun _ _ _ h => h) rfl (hm rfl rfl (fun _ _ _ h => h) rfl (hn rfl rfl (fun _ _ _ h => h) rfl (hfa tf_28_3 rfl rfl (fun _ _ _ h => h) rfl (hlc tl_26 at16 3 rfl rfl rfl (fun _ _ _ h => h) rfl ?_))))))))
 refine hn' rfl tz (oc (vs := [.slice b10 c.code.length c11]) tcall_23 rfl rfl (c_CloneIr c.code s12 hO) ?_)
 rintro _ w22 ⟨M23, rs25, _, le24, hO, rfl, b26, c27, rfl, r28⟩
 refine ⟨_, rfl, ?_⟩
 have h29 := h_c.mono le24
 have at30 := at16.mono le24
 have s31 := s12.mono le24
 have s32 := s15.mono le24
 have hle33 := le24
 refine kg_s (hO.forget.forget.less le24) (hfb 2 tf_28_2 rfl rfl rfl (fun _ _ _ h => h) rfl ?_)
 refine hn' rfl tz (oc (vs := [.slice b13 c.metas.length c14]) tcall_24 rfl rfl (c_CloneMeta c.metas s32 hO) ?_)
 rintro _ w34 ⟨M35, rs37, _, le36, hO, rfl, b38, c39, rfl, r40⟩
 refine ⟨_, rfl, ?_⟩
 have h41 := h29.mono le36
 have at42 := at30.mono le36
 have s43 := s31.mono le36
 have s44 := s32.mono le36
 have r45 := r28.mono le36
 have hle46 := m_ hle33 le36
 refine kg_s (hO.forget.forget.forget.less (m_ le24 le36)) ?_
 have hO := hO.front2
 refine hn' rfl tz (og_storeS (vs := [.slice b26 (((c.code)).length) c27]) hO tn_25 rfl rfl rfl (nb rfl) rfl rfl (fun w47 hO => ?_))
 have hO : Own _ M35 ([(b17, .cells #[.int .i64 c.fn, .int .i64 c.regs, .slice b26 (((c.code)).length) c27, .slice b13 c.metas.length c14] 28)] ++ (rs37 ++ (rs25 ++ ([(b8, .cells #[.int .i64 0, .int .i64 0, .slice none 0 0, .slice none 0 0] 28)] ++ bs)))) := hO
 refine kg_s (hO.forget.forget.forget.less (m_ le24 le36)) (hfb 3 tf_28_3 rfl rfl rfl (fun _ _ _ h => h) rfl ?_)
 refine hg_last rfl tz (og_storeS (vs := [.slice b38 (((c.metas)).length) c39]) hO tn_26 rfl rfl rfl (nb rfl) rfl rfl (fun w48 hO => ?_))
 have hO : Own _ M35 ([(b17, .cells #[.int .i64 c.fn, .int .i64 c.regs, .slice b26 (((c.code)).length) c27, .slice b38 (((c.metas)).length) c39] 28)] ++ (rs37 ++ (rs25 ++ ([(b8, .cells #[.int .i64 0, .int .i64 0, .slice none 0 0, .slice none 0 0] 28)] ++ bs)))) := hO
 refine ez (E' := [(2, .pointer (some ⟨b8, 0, none⟩)), (3, .pointer (some ⟨b17, 0, none⟩))]) ⟨rfl, rfl, tz⟩ (et (cq (cq (cr (fb 2 tf_28_2 rfl hO rfl rfl (ry hO rfl (yl tl_25 tz rfl (fun _ h => ob h 0 2 rfl rfl)) (ln ts_25 hO rfl rfl (mv hO rfl rfl (rj ?_)))))))))
 refine et (cb (ci (fun m57 E' w' => ∃ Mi49 : Mem, ∃ rs50 : List (Nat × Obj), ∃ l51 : List Ir, ∃ x53 : Int, E' = [(2, .pointer (some ⟨b8, 0, none⟩)), (3, .pointer (some ⟨b17, 0, none⟩)), (23, .int .i64 (((c.code)).length : Int)), (24, .int .i64 x53)] ∧ Mem.le M35 Mi49 ∧ Rw Mi49 rs50 b26 c27 l51 ∧ s_Copy_L0 n c m57 l51 x53 = some r ∧ Own w' Mi49 ([(b17, .cells #[.int .i64 c.fn, .int .i64 c.regs, .slice b26 l51.length c27, .slice b38 (((c.metas)).length) c39] 28)] ++ (rs37 ++ (rs50 ++ ([(b8, .cells #[.int .i64 0, .int .i64 0, .slice none 0 0, .slice none 0 0] 28)] ++ bs))))) (m0 := n) ⟨M35, rs25, (c.code), 0, rfl, (mr _), r45, hs, hO⟩ ⟨rfl, rfl, rfl, rfl, tz⟩ ?_))
 rintro fu55 _ w56 ⟨Mi49, rs50, l51, x53, rfl, le54, r52, hs, hO⟩
 rcases fu55 with _ | fu55
 ·
  simp [s_Copy_L0] at hs
 rw [s_Copy_L0] at hs
 have r58 := r40.mono le54
 have hle59 := m_ hle46 le54
 refine cq (cr (ry hO rfl (yv tz rfl rfl) (rj (et (cq (cd rfl (fun h60 => ?_) (fun h60 => ?_)))))))
 ·
  replace hs := cond_t h60 hs
  refine cp (et (cq (cb (cq (cr (mv hO rfl rfl (as_ hO rfl rfl (rj (et ?_)))))))))
  obtain ⟨w61, hO, ew62⟩ : ∃ w', Own w' Mi49 ([(b17, .cells #[.int .i64 c.fn, .int .i64 c.regs, .slice b26 l51.length c27, .slice b38 (((c.metas)).length) c39] 28)] ++ (rs37 ++ (rs50 ++ ([(b8, .cells #[.int .i64 0, .int .i64 0, .slice none 0 0, .slice none 0 0] 28)] ++ bs)))) ∧ { w56 with drawn := w56.drawn + 1 } = w' := ⟨_, hO.drawn _, rfl⟩
  refine cw (S := fun w => Own w Mi49 ([(b17, .cells #[.int .i64 c.fn, .int .i64 c.regs, .slice b26 l51.length c27, .slice b38 (((c.metas)).length) c39] 28)] ++ (rs37 ++ ([(b8, .cells #[.int .i64 0, .int .i64 0, .slice none 0 0, .slice none 0 0] 28)] ++ bs)))) (.take 0 (.take 1 (.take 2 (.take 3 (.take 4 (.take 5 (.take 6 (.take 7 (.one 8 (.one 9 (.take 10 (.take 11 (.one 12 .done))))))))))))) 13 tm (by kernel_rfl) ew62 ((hO.front2).forget) (hfb 2 tf_28_2 rfl rfl rfl (fun _ _ _ h => h) rfl (gy rfl rfl (fun _ _ _ h => h) (yl tl_25 tz rfl (fun _ h => ob h 0 2 rfl rfl)) (hm rfl rfl (fun _ _ _ h => h) rfl (hfb 2 tf_28_2 rfl rfl rfl (fun _ _ _ h => h) rfl (gy rfl rfl (fun _ _ _ h => h) (yl tl_25 tz rfl (fun _ h => ob h 0 2 rfl rfl)) (hm rfl rfl (fun _ _ _ h => h) rfl ?_))))))
  obtain ⟨hg63, hs⟩ := grd hs
  obtain ⟨b64, o65, rfl⟩ := Rw.ofs r52 (i := x53.toNat) (by exact ib hg63)
  have hO : Own w61 Mi49 ([(b17, .cells #[.int .i64 c.fn, .int .i64 c.regs, .slice (some ⟨b64, o65, none⟩) l51.length c27, .slice b38 (((c.metas)).length) c39] 28)] ++ (rs37 ++ (rs50 ++ ([(b8, .cells #[.int .i64 0, .int .i64 0, .slice none 0 0, .slice none 0 0] 28)] ++ bs)))) := by assumption
  refine gy rfl rfl (fun _ _ _ h => h) (yi ts_25 tz rfl rfl (by exact inb_0 hg63) (by exact inb_lt hg63)) (hfa tf_38_5 rfl rfl (fun _ _ _ h => h) rfl ?_)
  obtain ⟨vs66, hr67, hc68⟩ := Rw.cells (t := [(b17, .cells #[.int .i64 c.fn, .int .i64 c.regs, .slice (some ⟨b64, o65, none⟩) l51.length c27, .slice b38 (((c.metas)).length) c39] 28)] ++ (rs37 ++ ([(b8, .cells #[.int .i64 0, .int .i64 0, .slice none 0 0, .slice none 0 0] 28)] ++ bs))) r52 x53.toNat (by exact ib hg63)
  obtain ⟨b69, c70, rfl, s71⟩ := hr67
  refine hg_oneY (S' := fun w => Own w Mi49 ([(b17, .cells #[.int .i64 c.fn, .int .i64 c.regs, .slice (some ⟨b64, o65, none⟩) l51.length c27, .slice b38 (((c.metas)).length) c39] 28)] ++ (rs37 ++ (rs50 ++ ([(b8, .cells #[.int .i64 0, .int .i64 0, .slice none 0 0, .slice none 0 0] 28)] ++ bs))))) rfl rfl (yl tl_36 tz rfl (fun w h => hc68 w (h.front2) 5 _ rfl)) tz hO (kg_s (hO.front2).forget ?_)
  refine hn' rfl tz (oc (vs := [.slice b69 (((nth l51 x53.toNat).args).length) c70]) tcall_25 rfl rfl (c_CloneInt ((nth l51 x53.toNat).args) s71 hO) ?_)
  rintro _ w72 ⟨M73, rs75, _, le74, hO, rfl, b76, c77, rfl, r78⟩
  refine ⟨_, rfl, ?_⟩
  have r79 := r52.mono le74
  have s80 := s71.mono le74
  have r81 := r58.mono le74
  have hle82 := m_ hle59 le74
  have ch83 := m_ le54 le74
  refine kg_s ((hO.forget.front2).forget.less le74) (gy rfl rfl (fun _ _ _ h => h) (yi ts_25 tz rfl rfl (by exact inb_0 hg63) (by exact inb_lt hg63)) (hfa tf_38_5 rfl rfl (fun _ _ _ h => h) rfl ?_))
  obtain ⟨M84, le85, hO, hk86, hn87, hd88⟩ := Own.keeps (rs := rs75) hO
  have r89 := r79.mono le85
  have s90 := s80.mono le85
  have r91 := r78.mono le85
  have r92 := r81.mono le85
  have hle93 := m_ hle82 le85
  have ch94 := m_ ch83 le85
  have hO := hO.front2
  have hO : Own _ M84 (rs50 ++ ([(b17, .cells #[.int .i64 c.fn, .int .i64 c.regs, .slice (some ⟨b64, o65, none⟩) l51.length c27, .slice b38 (((c.metas)).length) c39] 28)] ++ (rs37 ++ ([(b8, .cells #[.int .i64 0, .int .i64 0, .slice none 0 0, .slice none 0 0] 28)] ++ bs)))) := hO
  obtain ⟨vs98, hr99, hc100⟩ := Rw.cells (t := [(b17, .cells #[.int .i64 c.fn, .int .i64 c.regs, .slice (some ⟨b64, o65, none⟩) l51.length c27, .slice b38 (((c.metas)).length) c39] 28)] ++ (rs37 ++ ([(b8, .cells #[.int .i64 0, .int .i64 0, .slice none 0 0, .slice none 0 0] 28)] ++ bs))) r89 x53.toNat (by exact ib hg63)
  obtain ⟨b101, c102, rfl, s103⟩ := hr99
  refine hn' rfl tz (og_storeRF (i := x53.toNat) (j := 5) (x := (⟨(nth l51 x53.toNat).kind, (nth l51 x53.toNat).r, (nth l51 x53.toNat).a, (nth l51 x53.toNat).b, (nth l51 x53.toNat).k, (((nth l51 x53.toNat).args)), (nth l51 x53.toNat).cost, (nth l51 x53.toNat).mt, (nth l51 x53.toNat).pc⟩ : Ir)) (y := nth l51 x53.toNat) (vs := [.int .i64 ((nth l51 x53.toNat).kind), .int .i64 ((nth l51 x53.toNat).r), .int .i64 ((nth l51 x53.toNat).a), .int .i64 ((nth l51 x53.toNat).b), .int .i64 ((nth l51 x53.toNat).k), .slice b101 (((nth l51 x53.toNat).args).length) c102, .int .i64 ((nth l51 x53.toNat).cost), .int .i64 ((nth l51 x53.toNat).mt), .int .i64 ((nth l51 x53.toNat).pc)]) hO r89 (nth_eq (by exact ib hg63)) hc100 rfl (nb rfl) tn_36 rfl ⟨b76, c77, rfl, (Rw.kept r91 hk86 (mr _))⟩ rfl rfl (fun rs96 w95 hO r97 => ?_))
  refine kg_s (hO.forget.less (m_ le74 le85)) (gd (ez (E' := [(2, .pointer (some ⟨b8, 0, none⟩)), (3, .pointer (some ⟨b17, 0, none⟩)), (23, .int .i64 (((c.code)).length : Int)), (24, .int .i64 x53), (25, .bool (decide (x53 < (((c.code)).length : Int)))), (26, .int .i64 x53), (4, .int .i64 x53), (27, .pointer (some ⟨b17, 2, none⟩)), (28, .slice (some ⟨b64, o65, none⟩) (((l51.set x53.toNat (⟨(nth l51 x53.toNat).kind, (nth l51 x53.toNat).r, (nth l51 x53.toNat).a, (nth l51 x53.toNat).b, (nth l51 x53.toNat).k, (((nth l51 x53.toNat).args)), (nth l51 x53.toNat).cost, (nth l51 x53.toNat).mt, (nth l51 x53.toNat).pc⟩ : Ir))).length) c27), (29, .int .i64 x53), (30, .pointer (some ⟨b17, 2, none⟩)), (31, .slice (some ⟨b64, o65, none⟩) (((l51.set x53.toNat (⟨(nth l51 x53.toNat).kind, (nth l51 x53.toNat).r, (nth l51 x53.toNat).a, (nth l51 x53.toNat).b, (nth l51 x53.toNat).k, (((nth l51 x53.toNat).args)), (nth l51 x53.toNat).cost, (nth l51 x53.toNat).mt, (nth l51 x53.toNat).pc⟩ : Ir))).length) c27), (32, .int .i64 x53), (33, .pointer (some ((⟨b64, o65, none⟩ : Addr).add (x53.toNat * 9)))), (34, .pointer (some (((⟨b64, o65, none⟩ : Addr).add (x53.toNat * 9)).add 5))), (35, .slice b69 (((nth l51 x53.toNat).args).length) c70), (36, .slice b76 (((((nth l51 x53.toNat).args))).length) c77), (37, .pointer (some ((⟨b64, o65, none⟩ : Addr).add (x53.toNat * 9)))), (38, .pointer (some (((⟨b64, o65, none⟩ : Addr).add (x53.toNat * 9)).add 5)))]) ⟨rfl, rfl, rfl, rfl, rfl, rfl, rfl, rfl, (congrArg (fun q : Nat => some (Value.slice (some ⟨b64, o65, none⟩) q c27)) (Eq.symm List.length_set)), rfl, rfl, (congrArg (fun q : Nat => some (Value.slice (some ⟨b64, o65, none⟩) q c27)) (Eq.symm List.length_set)), rfl, rfl, rfl, rfl, rfl, rfl, rfl, tz⟩ ?_))
  have hO : Own w95 M84 (rs96 ++ ([(b17, .cells #[.int .i64 c.fn, .int .i64 c.regs, .slice (some ⟨b64, o65, none⟩) (((l51.set x53.toNat (⟨(nth l51 x53.toNat).kind, (nth l51 x53.toNat).r, (nth l51 x53.toNat).a, (nth l51 x53.toNat).b, (nth l51 x53.toNat).k, (((nth l51 x53.toNat).args)), (nth l51 x53.toNat).cost, (nth l51 x53.toNat).mt, (nth l51 x53.toNat).pc⟩ : Ir))).length) c27, .slice b38 (((c.metas)).length) c39] 28)] ++ (rs37 ++ ([(b8, .cells #[.int .i64 0, .int .i64 0, .slice none 0 0, .slice none 0 0] 28)] ++ bs)))) := by have h_1 := hO; rw [show l51.length = (l51.set x53.toNat (⟨(nth l51 x53.toNat).kind, (nth l51 x53.toNat).r, (nth l51 x53.toNat).a, (nth l51 x53.toNat).b, (nth l51 x53.toNat).k, (((nth l51 x53.toNat).args)), (nth l51 x53.toNat).cost, (nth l51 x53.toNat).mt, (nth l51 x53.toNat).pc⟩ : Ir)).length from Eq.symm List.length_set] at h_1; exact h_1
  refine ek' (ez (E' := [(2, .pointer (some ⟨b8, 0, none⟩)), (3, .pointer (some ⟨b17, 0, none⟩)), (23, .int .i64 (((c.code)).length : Int)), (24, .int .i64 x53)]) ⟨rfl, rfl, rfl, rfl, tz⟩ (et (cr (ry hO rfl (y_add (wI (x53 + 1)) tz rfl rfl rfl) (mv hO rfl rfl (rj ?_))))))
  have hO := hO.front3
  have hO := hO.front1
  have hO := hO.front3
  have hO := hO.front3
  exact eo ⟨M84, rs96, (l51.set x53.toNat (⟨(nth l51 x53.toNat).kind, (nth l51 x53.toNat).r, (nth l51 x53.toNat).a, (nth l51 x53.toNat).b, (nth l51 x53.toNat).k, (((nth l51 x53.toNat).args)), (nth l51 x53.toNat).cost, (nth l51 x53.toNat).mt, (nth l51 x53.toNat).pc⟩ : Ir)), wI (x53 + 1), rfl, ch94, r97, hs, hO⟩ ⟨rfl, rfl, rfl, rfl, tz⟩ (Nat.lt_succ_self _)
 replace hs := cond_f h60 hs
 refine cx (eh (eh (ej (et (cq (cq (cr (fb 3 tf_28_3 rfl hO rfl rfl (ry hO rfl (yl tl_26 tz rfl (fun _ h => ob h 0 3 rfl rfl)) ?_)))))))))
 refine ln ts_26 hO rfl rfl (mv hO rfl rfl (rj (et (cb (ci (fun m112 E' w' => ∃ Mi104 : Mem, ∃ rs105 : List (Nat × Obj), ∃ l106 : List Meta, ∃ x108 : Int, E' = [(2, .pointer (some ⟨b8, 0, none⟩)), (3, .pointer (some ⟨b17, 0, none⟩)), (42, .int .i64 (((c.metas)).length : Int)), (43, .int .i64 x108)] ∧ Mem.le Mi49 Mi104 ∧ Rw Mi104 rs105 b38 c39 l106 ∧ s_Copy_L1 n c l51 m112 l106 x108 = some r ∧ Own w' Mi104 ([(b17, .cells #[.int .i64 c.fn, .int .i64 c.regs, .slice b26 l51.length c27, .slice b38 l106.length c39] 28)] ++ (rs105 ++ (rs50 ++ ([(b8, .cells #[.int .i64 0, .int .i64 0, .slice none 0 0, .slice none 0 0] 28)] ++ bs))))) (m0 := n) ⟨Mi49, rs37, (c.metas), 0, rfl, (mr _), r58, hs, hO⟩ ⟨rfl, rfl, rfl, rfl, tz⟩ ?_)))))
 rintro fu110 _ w111 ⟨Mi104, rs105, l106, x108, rfl, le109, r107, hs, hO⟩
 rcases fu110 with _ | fu110
 ·
  simp [s_Copy_L1] at hs
 rw [s_Copy_L1] at hs
 have r113 := r52.mono le109
 have hle114 := m_ hle59 le109
 have ch115 := m_ le54 le109
 refine cq (cr (ry hO rfl (yv tz rfl rfl) (rj (et (cq (cd rfl (fun h116 => ?_) (fun h116 => ?_)))))))
 ·
  replace hs := cond_t h116 hs
  refine cp (et (cq (cb (cq (cr (mv hO rfl rfl (as_ hO rfl rfl (rj (et ?_)))))))))
  obtain ⟨w117, hO, ew118⟩ : ∃ w', Own w' Mi104 ([(b17, .cells #[.int .i64 c.fn, .int .i64 c.regs, .slice b26 l51.length c27, .slice b38 l106.length c39] 28)] ++ (rs105 ++ (rs50 ++ ([(b8, .cells #[.int .i64 0, .int .i64 0, .slice none 0 0, .slice none 0 0] 28)] ++ bs)))) ∧ { w111 with drawn := w111.drawn + 1 } = w' := ⟨_, hO.drawn _, rfl⟩
  refine cw (S := fun w => Own w Mi104 ([(b17, .cells #[.int .i64 c.fn, .int .i64 c.regs, .slice b26 l51.length c27, .slice b38 l106.length c39] 28)] ++ (rs50 ++ ([(b8, .cells #[.int .i64 0, .int .i64 0, .slice none 0 0, .slice none 0 0] 28)] ++ bs)))) (.take 0 (.take 1 (.take 2 (.take 3 (.take 4 (.take 5 (.take 6 (.one 7 (.one 8 (.take 9 (.last 10))))))))))) 10 tm (by kernel_rfl) ew118 ((hO.front1).forget) (hfb 3 tf_28_3 rfl rfl rfl (fun _ _ _ h => h) rfl (gy rfl rfl (fun _ _ _ h => h) (yl tl_26 tz rfl (fun _ h => ob h 0 3 rfl rfl)) (hm rfl rfl (fun _ _ _ h => h) rfl (hfb 3 tf_28_3 rfl rfl rfl (fun _ _ _ h => h) rfl (gy rfl rfl (fun _ _ _ h => h) (yl tl_26 tz rfl (fun _ h => ob h 0 3 rfl rfl)) (hm rfl rfl (fun _ _ _ h => h) rfl ?_))))))
  obtain ⟨hg119, hs⟩ := grd hs
  obtain ⟨b120, o121, rfl⟩ := Rw.ofs r107 (i := x108.toNat) (by exact ib hg119)
  have hO : Own w117 Mi104 ([(b17, .cells #[.int .i64 c.fn, .int .i64 c.regs, .slice b26 l51.length c27, .slice (some ⟨b120, o121, none⟩) l106.length c39] 28)] ++ (rs105 ++ (rs50 ++ ([(b8, .cells #[.int .i64 0, .int .i64 0, .slice none 0 0, .slice none 0 0] 28)] ++ bs)))) := by assumption
  refine gy rfl rfl (fun _ _ _ h => h) (yi ts_26 tz rfl rfl (by exact inb_0 hg119) (by exact inb_lt hg119)) ?_
  obtain ⟨vs122, hr123, hc124⟩ := Rw.cells (t := [(b17, .cells #[.int .i64 c.fn, .int .i64 c.regs, .slice b26 l51.length c27, .slice (some ⟨b120, o121, none⟩) l106.length c39] 28)] ++ (rs50 ++ ([(b8, .cells #[.int .i64 0, .int .i64 0, .slice none 0 0, .slice none 0 0] 28)] ++ bs))) r107 x108.toNat (by exact ib hg119)
  obtain ⟨b125, c126, rfl, s127⟩ := hr123
  refine hg_oneY (S' := fun w => Own w Mi104 ([(b17, .cells #[.int .i64 c.fn, .int .i64 c.regs, .slice b26 l51.length c27, .slice (some ⟨b120, o121, none⟩) l106.length c39] 28)] ++ (rs105 ++ (rs50 ++ ([(b8, .cells #[.int .i64 0, .int .i64 0, .slice none 0 0, .slice none 0 0] 28)] ++ bs))))) rfl rfl (yq [.slice b125 (((nth l106 x108.toNat).parts).length) c126] ta_65 rfl tz rfl (fun w h j v e => hc124 w (h.front1) j v e)) tz hO (kg_s (hO.front1).forget ?_)
  refine hn' rfl tz (oc (vs := [.agg #[.slice b125 (((nth l106 x108.toNat).parts).length) c126]]) tcall_26 rfl rfl (c_CopyMeta (vs_m := [.slice b125 (((nth l106 x108.toNat).parts).length) c126]) (nth l106 x108.toNat) ⟨b125, c126, rfl, s127⟩ hO) ?_)
  rintro _ w128 ⟨M129, _, le130, hO, rfl, ⟨_, rfl, b131, c132, rfl, s133⟩⟩
  refine ⟨_, rfl, ?_⟩
  have r134 := r107.mono le130
  have s135 := s127.mono le130
  have r136 := r113.mono le130
  have hle137 := m_ hle114 le130
  have ch138 := m_ ch115 le130
  have ch139 := m_ le109 le130
  refine kg_s ((hO.front1).forget.less le130) (gy rfl rfl (fun _ _ _ h => h) (yi ts_26 tz rfl rfl (by exact inb_0 hg119) (by exact inb_lt hg119)) ?_)
  have hO := hO.front1
  refine hg_last rfl tz (og_storeR (i := x108.toNat) (x := ((nth l106 x108.toNat))) (vs := [.slice b131 ((((nth l106 x108.toNat)).parts).length) c132]) hO r134 (by exact ib hg119) tn_65 rfl rfl ⟨b131, c132, rfl, s133⟩ rfl rfl (fun rs141 w140 hO r142 => ?_))
  refine ez (E' := [(2, .pointer (some ⟨b8, 0, none⟩)), (3, .pointer (some ⟨b17, 0, none⟩)), (42, .int .i64 (((c.metas)).length : Int)), (43, .int .i64 x108), (44, .bool (decide (x108 < (((c.metas)).length : Int)))), (45, .int .i64 x108), (5, .int .i64 x108), (46, .pointer (some ⟨b17, 3, none⟩)), (47, .slice (some ⟨b120, o121, none⟩) (((l106.set x108.toNat ((nth l106 x108.toNat)))).length) c39), (48, .int .i64 x108), (49, .pointer (some ⟨b17, 3, none⟩)), (50, .slice (some ⟨b120, o121, none⟩) (((l106.set x108.toNat ((nth l106 x108.toNat)))).length) c39), (51, .int .i64 x108), (52, .pointer (some ((⟨b120, o121, none⟩ : Addr).add (x108.toNat * 1)))), (53, .agg #[.slice b125 (((nth l106 x108.toNat).parts).length) c126]), (54, .agg #[.slice b131 ((((nth l106 x108.toNat)).parts).length) c132]), (55, .pointer (some ((⟨b120, o121, none⟩ : Addr).add (x108.toNat * 1))))]) ⟨rfl, rfl, rfl, rfl, rfl, rfl, rfl, rfl, (congrArg (fun q : Nat => some (Value.slice (some ⟨b120, o121, none⟩) q c39)) (Eq.symm List.length_set)), rfl, rfl, (congrArg (fun q : Nat => some (Value.slice (some ⟨b120, o121, none⟩) q c39)) (Eq.symm List.length_set)), rfl, rfl, rfl, rfl, rfl, tz⟩ ?_
  have hO : Own w140 M129 (rs141 ++ ([(b17, .cells #[.int .i64 c.fn, .int .i64 c.regs, .slice b26 l51.length c27, .slice (some ⟨b120, o121, none⟩) (((l106.set x108.toNat ((nth l106 x108.toNat)))).length) c39] 28)] ++ (rs50 ++ ([(b8, .cells #[.int .i64 0, .int .i64 0, .slice none 0 0, .slice none 0 0] 28)] ++ bs)))) := by have h_1 := hO; rw [show l106.length = (l106.set x108.toNat ((nth l106 x108.toNat))).length from Eq.symm List.length_set] at h_1; exact h_1
  refine ek' (ez (E' := [(2, .pointer (some ⟨b8, 0, none⟩)), (3, .pointer (some ⟨b17, 0, none⟩)), (42, .int .i64 (((c.metas)).length : Int)), (43, .int .i64 x108)]) ⟨rfl, rfl, rfl, rfl, tz⟩ (et (cr (ry hO rfl (y_add (wI (x108 + 1)) tz rfl rfl rfl) (mv hO rfl rfl (rj ?_))))))
  have hO := hO.front3
  have hO := hO.front3
  have hO := hO.front2
  have hO := hO.front3
  exact eo ⟨M129, rs141, (l106.set x108.toNat ((nth l106 x108.toNat))), wI (x108 + 1), rfl, ch139, r142, hs, hO⟩ ⟨rfl, rfl, rfl, rfl, tz⟩ (Nat.lt_succ_self _)
 replace hs := cond_f h116 hs
 refine cx (eh (eh (ej (et (cq (cr (ry hO rfl (yq [.int .i64 c.fn, .int .i64 c.regs, .slice b26 l51.length c27, .slice b38 l106.length c39] ta_28 rfl tz rfl (fun _ h => Own.cellsB h 0 0 rfl (by intro j v e; exact rowCells (vs := [.int .i64 c.fn, .int .i64 c.regs, .slice b26 l51.length c27, .slice b38 l106.length c39]) rfl e))) ?_)))))))
 have hO := hO.front3
 refine rd' tz (og_storeS (vs := [.int .i64 c.fn, .int .i64 c.regs, .slice b26 l51.length c27, .slice b38 l106.length c39]) hO tn_28 rfl rfl rfl (nb rfl) rfl rfl (fun w143 hO => ?_))
 have hO : Own _ Mi104 ([(b8, .cells #[.int .i64 c.fn, .int .i64 c.regs, .slice b26 l51.length c27, .slice b38 l106.length c39] 28)] ++ ([(b17, .cells #[.int .i64 c.fn, .int .i64 c.regs, .slice b26 l51.length c27, .slice b38 l106.length c39] 28)] ++ (rs105 ++ (rs50 ++ bs)))) := hO
 refine rj (et (ct ?_))
 have hO : Own _ Mi104 ([(b8, .cells #[.int .i64 c.fn, .int .i64 c.regs, .slice b26 l51.length c27, .slice b38 l106.length c39] 28)] ++ ([(b17, .cells #[.int .i64 c.fn, .int .i64 c.regs, .slice b26 l51.length c27, .slice b38 l106.length c39] 28)] ++ (rs105 ++ (rs50 ++ bs)))) := hO
 refine ends_retC (vs := [.int .i64 c.fn, .int .i64 c.regs, .slice b26 l51.length c27, .slice b38 l106.length c39]) hO ta_28 (.inl rfl) rfl rfl ?_
 have hO := hO.front2
 obtain ⟨M144, le145, hO, hk146, hn147, hd148⟩ := Own.keeps (rs := rs105) hO
 have r149 := r113.mono le145
 have r150 := r107.mono le145
 have hle151 := m_ hle114 le145
 have ch152 := m_ ch115 le145
 have ch153 := m_ le109 le145
 have s154 := Rw.kept r150 hk146 (mr _)
 have hO := hO.forget
 have hO := hO.forget
 obtain rfl := o_ hs
 exact ⟨M144, b26, c27, rs50, b38, c39, hle151, hO, rfl, r149, s154⟩

def s_Dead_L0 (n : Nat)  : Nat → (List Ir) → Int → Int → (List Meta) → Option (CodeD × Int)
  | 0, _, _, _, _ => none
  | fu79 + 1, l70, x72, x73, l76 => (s_once n (⟨x72, x73, l70, l76⟩ : CodeD)).bind fun v89 => cond v89.1 (s_Dead_L0 n fu79 v89.2.code v89.2.fn v89.2.regs v89.2.metas) (some (v89.2, 0))
def s_Dead (n : Nat) (p : Prog) (c : CodeD) : Option (CodeD × Int) := cond (!(irMay p c)) (some ((⟨0, 0, ([] : List Ir), ([] : List Meta)⟩ : CodeD), 1700)) ((s_Copy n c).bind fun v44 => s_Dead_L0 n n v44.code v44.fn v44.regs v44.metas)
theorem c_Dead {n : Nat} {vs_p : List Value} {vs_c : List Value} (p : Prog) (c : CodeD) {r : CodeD × Int} {w : World} {M : Mem} {bs : List (Nat × Obj)} (h_p : Rep.rd M vs_p p) (h_c : Rep.rd M vs_c c) (hG : Glob M) (hs : s_Dead n p c = some r) (hO : Own w M (bs)) :
    Calls Tryd.prog 7 #[.agg vs_p.toArray, .agg vs_c.toArray] w (fun e w' => ∃ M' : Mem, ∃ b10 : Option Addr, ∃ c11 : Nat, ∃ rs12 : List (Nat × Obj), ∃ b14 : Option Addr, ∃ c15 : Nat, Mem.le M M' ∧ Own w' M' (rs12 ++ bs) ∧ e = .returned (.tuple #[.agg #[.int .i64 r.1.fn, .int .i64 r.1.regs, .slice b10 r.1.code.length c11, .slice b14 r.1.metas.length c15], .int .i64 r.2]) ∧ Rw M' rs12 b10 c11 r.1.code ∧ RdS M' b14 c15 r.1.metas) := by
 obtain ⟨b1, c2, rfl, s3⟩ := h_p
 obtain ⟨b4, c5, b7, c8, rfl, s6, s9⟩ := h_c
 unfold s_Dead at hs
 refine ce (vs := [.agg #[.slice b1 p.funcs.length c2], .agg #[.int .i64 c.fn, .int .i64 c.regs, .slice b4 c.code.length c5, .slice b7 c.metas.length c8]]) (n := 15) Tryd.func7 rfl rfl rfl (cq (cr (rd' tz (og_box hO rfl rfl (fun b17 w18 hO => ?_)))))
 have hO : Own _ M ([(b17, .cells #[.slice b1 p.funcs.length c2] 24)] ++ bs) := hO
 refine rd' tz (og_box hO rfl rfl (fun b19 w20 hO => ?_))
 have hO : Own _ M ([(b19, .cells #[.int .i64 c.fn, .int .i64 c.regs, .slice b4 c.code.length c5, .slice b7 c.metas.length c8] 28)] ++ ([(b17, .cells #[.slice b1 p.funcs.length c2] 24)] ++ bs)) := hO
 refine rd' tz (og_alloc hO rfl tz_28 (fun b21 w22 hO => ?_))
 have hO : Own _ M ([(b21, .cells #[.int .i64 0, .int .i64 0, .slice none 0 0, .slice none 0 0] 28)] ++ ([(b19, .cells #[.int .i64 c.fn, .int .i64 c.regs, .slice b4 c.code.length c5, .slice b7 c.metas.length c8] 28)] ++ ([(b17, .cells #[.slice b1 p.funcs.length c2] 24)] ++ bs))) := hO
 refine as_ hO rfl rfl (rj (et (cq (cq (cr (ry hO rfl (yq [.slice b1 p.funcs.length c2] ta_24 rfl tz rfl (fun _ h => Own.cellsB (h.front2) 0 0 rfl (by intro j v e; exact rowCells (vs := [.slice b1 p.funcs.length c2]) rfl e))) (ry hO rfl (yq [.int .i64 c.fn, .int .i64 c.regs, .slice b4 c.code.length c5, .slice b7 c.metas.length c8] ta_28 rfl tz rfl (fun _ h => Own.cellsB (h.front1) 0 0 rfl (by intro j v e; exact rowCells (vs := [.int .i64 c.fn, .int .i64 c.regs, .slice b4 c.code.length c5, .slice b7 c.metas.length c8]) rfl e))) (rd' tz (oc (vs := [.agg #[.slice b1 p.funcs.length c2], .agg #[.int .i64 c.fn, .int .i64 c.regs, .slice b4 c.code.length c5, .slice b7 c.metas.length c8]]) tcall_9 rfl rfl (c_May (vs_p := [.slice b1 p.funcs.length c2]) p (vs_c := [.int .i64 c.fn, .int .i64 c.regs, .slice b4 c.code.length c5, .slice b7 c.metas.length c8]) c ⟨b1, c2, rfl, s3⟩ ⟨b4, c5, b7, c8, rfl, s6, s9⟩ (hG.mono (mr _)) hO) ?_)))))))))
 rintro _ w23 ⟨M24, _, le25, hO, rfl, rfl⟩
 refine ⟨_, rfl, ?_⟩
 have s26 := s3.mono le25
 have s27 := s6.mono le25
 have s28 := s9.mono le25
 have hle29 := le25
 refine ry hO rfl (yt tz rfl) (rj (et (cd rfl (fun h30 => ?_) (fun h30 => ?_))))
 ·
  replace hs := cond_t h30 hs
  have h31 : (irMay p c) = false := not_t h30
  refine cq (cr (ry hO rfl (y_build [] (.agg #[.int .i64 0, .int .i64 0, .slice none 0 0, .slice none 0 0]) tz rfl (fun _ => by kernel_rfl)) (rd' tz (og_storeS (vs := [.int .i64 0, .int .i64 0, .slice none 0 0, .slice none 0 0]) hO tn_28 rfl rfl rfl (nb rfl) rfl rfl (fun w32 hO => ?_)))))
  have hO : Own _ M24 ([(b21, .cells #[.int .i64 0, .int .i64 0, .slice none 0 0, .slice none 0 0] 28)] ++ ([(b19, .cells #[.int .i64 c.fn, .int .i64 c.regs, .slice b4 c.code.length c5, .slice b7 c.metas.length c8] 28)] ++ ([(b17, .cells #[.slice b1 p.funcs.length c2] 24)] ++ bs))) := hO
  refine as_ hO rfl rfl (rj (et (ct (ew' ?_))))
  have hO : Own _ M24 ([(b21, .cells #[.int .i64 0, .int .i64 0, .slice none 0 0, .slice none 0 0] 28)] ++ ([(b19, .cells #[.int .i64 c.fn, .int .i64 c.regs, .slice b4 c.code.length c5, .slice b7 c.metas.length c8] 28)] ++ ([(b17, .cells #[.slice b1 p.funcs.length c2] 24)] ++ bs))) := hO
  refine ends_retCT (vs := [.int .i64 0, .int .i64 0, .slice none 0 0, .slice none 0 0]) hO ta_28 (.inl rfl) rfl rfl rfl ?_
  have hO := hO.forget
  have hO := hO.forget
  have hO := hO.forget
  obtain rfl := o_ hs
  exact ⟨M24, none, 0, [], none, 0, hle29, hO, rfl, (Rw.nil _), (RdS.nil _ _ _)⟩
 replace hs := cond_f h30 hs
 have h33 : (irMay p c) = true := not_f h30
 refine cp (et (cq (cr ?_)))
 have hO := hO.front1
 obtain ⟨M34, le35, hO, hk36, hn37, hd38⟩ := Own.keeps (rs := [(b19, .cells #[.int .i64 c.fn, .int .i64 c.regs, .slice b4 c.code.length c5, .slice b7 c.metas.length c8] 28)]) hO
 have s39 := s26.mono le35
 have s40 := s27.mono le35
 have s41 := s28.mono le35
 have hle42 := m_ hle29 le35
 have at43 := Has.at (vs := [.int .i64 c.fn, .int .i64 c.regs, .slice b4 c.code.length c5, .slice b7 c.metas.length c8]) hk36 rfl
 obtain ⟨v44, hv45, hs⟩ := bind_s hs
 refine rd' tz (oc (vs := [.pointer (some ⟨b19, 0, none⟩)]) tcall_14 rfl rfl (c_Copy c ⟨_, at43, ⟨b4, c5, b7, c8, rfl, s40, s41⟩⟩ hv45 hO) ?_)
 rintro _ w46 ⟨M47, b49, c50, rs51, b53, c54, le48, hO, rfl, r52, s55⟩
 refine ⟨_, rfl, ?_⟩
 have s56 := s39.mono le48
 have s57 := s40.mono le48
 have s58 := s41.mono le48
 have hk59 := hk36.mono le48
 have at60 := at43.mono le48
 have hle61 := m_ hle42 le48
 have kl62 := m_ le35 le48
 have hO : Own _ M47 (rs51 ++ ([(b21, .cells #[.int .i64 0, .int .i64 0, .slice none 0 0, .slice none 0 0] 28)] ++ ([(b17, .cells #[.slice b1 p.funcs.length c2] 24)] ++ bs))) := hO
 refine rd' tz (og_alloc hO rfl tz_28 (fun b63 w64 hO => ?_))
 have hO : Own _ M47 ([(b63, .cells #[.int .i64 0, .int .i64 0, .slice none 0 0, .slice none 0 0] 28)] ++ (rs51 ++ ([(b21, .cells #[.int .i64 0, .int .i64 0, .slice none 0 0, .slice none 0 0] 28)] ++ ([(b17, .cells #[.slice b1 p.funcs.length c2] 24)] ++ bs)))) := hO
 refine rd' tz (og_storeS (vs := [.int .i64 v44.fn, .int .i64 v44.regs, .slice b49 v44.code.length c50, .slice b53 v44.metas.length c54]) hO tn_28 rfl rfl rfl (nb rfl) rfl rfl (fun w65 hO => ?_))
 have hO : Own _ M47 ([(b63, .cells #[.int .i64 v44.fn, .int .i64 v44.regs, .slice b49 v44.code.length c50, .slice b53 v44.metas.length c54] 28)] ++ (rs51 ++ ([(b21, .cells #[.int .i64 0, .int .i64 0, .slice none 0 0, .slice none 0 0] 28)] ++ ([(b17, .cells #[.slice b1 p.funcs.length c2] 24)] ++ bs)))) := hO
 refine rj (et (cq (cb (ci (fun m81 E' w' => ∃ Mi66 : Mem, ∃ b67 : Option Addr, ∃ c68 : Nat, ∃ rs69 : List (Nat × Obj), ∃ b74 : Option Addr, ∃ c75 : Nat, ∃ l70 : List Ir, ∃ x72 : Int, ∃ x73 : Int, ∃ l76 : List Meta, E' = [(4, .pointer (some ⟨b21, 0, none⟩)), (5, .int .i64 0), (6, .pointer (some ⟨b63, 0, none⟩))] ∧ Mem.le M47 Mi66 ∧ Rw Mi66 rs69 b67 c68 l70 ∧ RdS Mi66 b74 c75 l76 ∧ s_Dead_L0 n m81 l70 x72 x73 l76 = some r ∧ Own w' Mi66 ([(b63, .cells #[.int .i64 x72, .int .i64 x73, .slice b67 l70.length c68, .slice b74 l76.length c75] 28)] ++ (rs69 ++ ([(b21, .cells #[.int .i64 0, .int .i64 0, .slice none 0 0, .slice none 0 0] 28)] ++ ([(b17, .cells #[.slice b1 p.funcs.length c2] 24)] ++ bs))))) (m0 := n) ⟨M47, b49, c50, rs51, b53, c54, v44.code, v44.fn, v44.regs, v44.metas, rfl, (mr _), r52, s55, hs, hO⟩ ⟨rfl, rfl, rfl, tz⟩ ?_))))
 rintro fu79 _ w80 ⟨Mi66, b67, c68, rs69, b74, c75, l70, x72, x73, l76, rfl, le78, r71, s77, hs, hO⟩
 rcases fu79 with _ | fu79
 ·
  simp [s_Dead_L0] at hs
 rw [s_Dead_L0] at hs
 have s82 := s56.mono le78
 have s83 := s57.mono le78
 have s84 := s58.mono le78
 have hk85 := hk59.mono le78
 have at86 := at60.mono le78
 have hle87 := m_ hle61 le78
 have kl88 := m_ kl62 le78
 refine cq (cq (cr ?_))
 have hO : Own _ Mi66 ([(b63, .cells #[.int .i64 x72, .int .i64 x73, .slice b67 l70.length c68, .slice b74 l76.length c75] 28)] ++ (rs69 ++ ([(b21, .cells #[.int .i64 0, .int .i64 0, .slice none 0 0, .slice none 0 0] 28)] ++ ([(b17, .cells #[.slice b1 p.funcs.length c2] 24)] ++ bs)))) := hO
 obtain ⟨v89, hv90, hs⟩ := bind_s hs
 refine rd' tz (oc (vs := [.pointer (some ⟨b63, 0, none⟩)]) tcall_15 rfl rfl (c_once (⟨x72, x73, l70, l76⟩ : CodeD) r71 s77 hv90 hO) ?_)
 rintro _ w91 ⟨M92, b94, c95, rs96, b98, c99, le93, hO, rfl, r97, s100⟩
 refine ⟨_, rfl, ?_⟩
 have s101 := s82.mono le93
 have s102 := s83.mono le93
 have s103 := s84.mono le93
 have hk104 := hk85.mono le93
 have at105 := at86.mono le93
 have hle106 := m_ hle87 le93
 have ch107 := m_ le78 le93
 have kl108 := m_ kl88 le93
 have hO : Own _ M92 ([(b63, .cells #[.int .i64 v89.2.fn, .int .i64 v89.2.regs, .slice b94 v89.2.code.length c95, .slice b98 v89.2.metas.length c99] 28)] ++ (rs96 ++ ([(b21, .cells #[.int .i64 0, .int .i64 0, .slice none 0 0, .slice none 0 0] 28)] ++ ([(b17, .cells #[.slice b1 p.funcs.length c2] 24)] ++ bs)))) := hO
 refine rj (et (cd rfl (fun h109 => ?_) (fun h109 => ?_)))
 ·
  replace hs := cond_t h109 hs
  exact cp (et (cb (cp (ek' (eo ⟨M92, b94, c95, rs96, b98, c99, v89.2.code, v89.2.fn, v89.2.regs, v89.2.metas, rfl, ch107, r97, s100, hs, hO⟩ ⟨rfl, rfl, rfl, tz⟩ (Nat.lt_succ_self _))))))
 replace hs := cond_f h109 hs
 refine cx (eh (eh (ej (et (cq (cr (ry hO rfl (yq [.int .i64 v89.2.fn, .int .i64 v89.2.regs, .slice b94 v89.2.code.length c95, .slice b98 v89.2.metas.length c99] ta_28 rfl tz rfl (fun _ h => Own.cellsB h 0 0 rfl (by intro j v e; exact rowCells (vs := [.int .i64 v89.2.fn, .int .i64 v89.2.regs, .slice b94 v89.2.code.length c95, .slice b98 v89.2.metas.length c99]) rfl e))) ?_)))))))
 have hO := hO.front2
 refine rd' tz (og_storeS (vs := [.int .i64 v89.2.fn, .int .i64 v89.2.regs, .slice b94 v89.2.code.length c95, .slice b98 v89.2.metas.length c99]) hO tn_28 rfl rfl rfl (nb rfl) rfl rfl (fun w110 hO => ?_))
 have hO : Own _ M92 ([(b21, .cells #[.int .i64 v89.2.fn, .int .i64 v89.2.regs, .slice b94 v89.2.code.length c95, .slice b98 v89.2.metas.length c99] 28)] ++ ([(b63, .cells #[.int .i64 v89.2.fn, .int .i64 v89.2.regs, .slice b94 v89.2.code.length c95, .slice b98 v89.2.metas.length c99] 28)] ++ (rs96 ++ ([(b17, .cells #[.slice b1 p.funcs.length c2] 24)] ++ bs)))) := hO
 refine as_ hO rfl rfl (rj (et (ct ?_)))
 have hO : Own _ M92 ([(b21, .cells #[.int .i64 v89.2.fn, .int .i64 v89.2.regs, .slice b94 v89.2.code.length c95, .slice b98 v89.2.metas.length c99] 28)] ++ ([(b63, .cells #[.int .i64 v89.2.fn, .int .i64 v89.2.regs, .slice b94 v89.2.code.length c95, .slice b98 v89.2.metas.length c99] 28)] ++ (rs96 ++ ([(b17, .cells #[.slice b1 p.funcs.length c2] 24)] ++ bs)))) := hO
 refine ends_retCT (vs := [.int .i64 v89.2.fn, .int .i64 v89.2.regs, .slice b94 v89.2.code.length c95, .slice b98 v89.2.metas.length c99]) hO ta_28 (.inl rfl) rfl rfl rfl ?_
 have hO := hO.forget
 have hO := hO.forget
 have hO := hO.front1
 have hO := hO.forget
 obtain rfl := o_ hs
 exact ⟨M92, b94, c95, rs96, b98, c99, hle106, hO, rfl, r97, s100⟩

end Go.Proofs.YtdniefnjgkhkeaaDoor
