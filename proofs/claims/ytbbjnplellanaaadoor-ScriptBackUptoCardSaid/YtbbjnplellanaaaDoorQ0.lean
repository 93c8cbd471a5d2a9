/- The simp sets of the engine, as conjunctions. -/
import Derived.Test.YtbbjnplellanaaaDoorT0
import Derived.Test.YtbbjnplellanaaaDoorC9
import Derived.Test.YtbbjnplellanaaaDoorCE
set_option linter.defProp false
set_option maxRecDepth 100000
namespace Go.Proofs.YtbbjnplellanaaaDoor
open Go.VW
theorem oC_bool (b : Bool) : oneC (.bool b : Value) = true := rfl
theorem cC_bool (b : Bool) : Value.cells (.bool b : Value) = #[(.bool b : Value)] := rfl
theorem oC_int (k : IntKind) (n : Int) : oneC (.int k n : Value) = true := rfl
theorem cC_int (k : IntKind) (n : Int) : Value.cells (.int k n : Value) = #[(.int k n : Value)] := rfl
theorem oC_float (k : FloatKind) (n : Nat) : oneC (.float k n : Value) = true := rfl
theorem cC_float (k : FloatKind) (n : Nat) : Value.cells (.float k n : Value) = #[(.float k n : Value)] := rfl
theorem oC_complex (k : FloatKind) (n m : Nat) : oneC (.complex k n m : Value) = true := rfl
theorem cC_complex (k : FloatKind) (n m : Nat) : Value.cells (.complex k n m : Value) = #[(.complex k n m : Value)] := rfl
theorem oC_string (s : ByteArray) : oneC (.string s : Value) = true := rfl
theorem cC_string (s : ByteArray) : Value.cells (.string s : Value) = #[(.string s : Value)] := rfl
theorem oC_pointer (a : Option Addr) : oneC (.pointer a : Value) = true := rfl
theorem cC_pointer (a : Option Addr) : Value.cells (.pointer a : Value) = #[(.pointer a : Value)] := rfl
theorem oC_slice (a : Option Addr) (n m : Nat) : oneC (.slice a n m : Value) = true := rfl
theorem cC_slice (a : Option Addr) (n m : Nat) : Value.cells (.slice a n m : Value) = #[(.slice a n m : Value)] := rfl
theorem oC_map (a : Option Nat) : oneC (.map a : Value) = true := rfl
theorem cC_map (a : Option Nat) : Value.cells (.map a : Value) = #[(.map a : Value)] := rfl
theorem oC_chan (a : Option Nat) : oneC (.chan a : Value) = true := rfl
theorem cC_chan (a : Option Nat) : Value.cells (.chan a : Value) = #[(.chan a : Value)] := rfl
theorem oC_func (f : Fn) (a b : Array Value) : oneC (.func f a b : Value) = true := rfl
theorem cC_func (f : Fn) (a b : Array Value) : Value.cells (.func f a b : Value) = #[(.func f a b : Value)] := rfl
theorem oC_nilFunc  : oneC (.nilFunc  : Value) = true := rfl
theorem cC_nilFunc  : Value.cells (.nilFunc  : Value) = #[(.nilFunc  : Value)] := rfl
theorem oC_iface (t : TypeId) (v : Value) : oneC (.iface t v : Value) = true := rfl
theorem cC_iface (t : TypeId) (v : Value) : Value.cells (.iface t v : Value) = #[(.iface t v : Value)] := rfl
theorem oC_nilIface  : oneC (.nilIface  : Value) = true := rfl
theorem cC_nilIface  : Value.cells (.nilIface  : Value) = #[(.nilIface  : Value)] := rfl
theorem oC_agg (a : Array Value) : oneC (.agg a : Value) = false := rfl
theorem cC_agg (a : Array Value) : Value.cells (.agg a : Value) = a := rfl
theorem oC_tuple (a : Array Value) : oneC (.tuple a : Value) = false := rfl
theorem cC_tuple (a : Array Value) : Value.cells (.tuple a : Value) = #[(.tuple a : Value)] := rfl
theorem ev_t (e : Env) (t : Tmp) : ev e (.tmp t) = e t := rfl
theorem ev_c (e : Env) (v : Value) : ev e (.const v) = v := rfl
theorem ev_g (e : Env) (g : Nat) : ev e (.global g) = .pointer (some ⟨g, 0, none⟩) := rfl
theorem ev_f (e : Env) (f : FuncId) : ev e (.func f) = .func (.func f) #[] #[] := rfl
theorem iN_s {α : Type} (a : α) : (some a).isNone = false := rfl
theorem iN_n {α : Type} : (none : Option α).isNone = true := rfl
noncomputable def gv := aI (@oC_bool) <|aI (@cC_bool) <|aI (@oC_int) <|aI (@cC_int) <|aI (@oC_float) <|aI (@cC_float) <|aI (@oC_complex) <|aI (@cC_complex) <|aI (@oC_string) <|aI (@cC_string) <|aI (@oC_pointer) <|aI (@cC_pointer) <|aI (@oC_slice) <|aI (@cC_slice) <|aI (@oC_map) <|aI (@cC_map) <|aI (@oC_chan) <|aI (@cC_chan) <|aI (@oC_func) <|aI (@cC_func) <|aI (@oC_nilFunc) <|aI (@cC_nilFunc) <|aI (@oC_iface) <|aI (@cC_iface) <|aI (@oC_nilIface) <|aI (@cC_nilIface) <|aI (@oC_agg) <|aI (@cC_agg) <|aI (@oC_tuple) <|aI (@cC_tuple) <|aI (@ev_t) <|aI (@ev_c) <|aI (@ev_g) <|aI (@ev_f) <|aI (@iN_s) <|@iN_n
noncomputable def bOO := aI (@Bool.true_and) <|aI (@Bool.false_and) <|aI (@Bool.and_true) <|aI (@Bool.and_false) <|aI (@Bool.true_or) <|aI (@Bool.false_or) <|aI (@Bool.or_true) <|aI (@Bool.or_false) <|aI (@Bool.not_true) <|aI (@Bool.not_false) <|aI (@if_true.{1}) <|aI (@if_false.{1}) <|@Bool.false_eq_true
noncomputable def gsd := aI (@nx_xv) <|aI (@nx_xu) <|aI (@mv_eq) <|aI (@seqQ_n) <|aI (@seqQ_r) <|aI (@seqQ_x) <|aI (@blockQ_n) <|aI (@blockQ_r) <|aI (@blockQ_same) <|aI (@blockQ_ne) <|aI (@gotoN_n) <|aI (@gotoN_r) <|aI (@gotoN_x) <|aI (@retQ_n) <|@retQ_r
noncomputable def gs := aI (@nx_len) <|aI (@nx_cap) <|aI (@nx_append) <|aI (@nx_min) <|aI (@nx_max) <|aI (@nx_delete) <|aI (@nx_clear) <|aI (@vR_ok) <|aI (@uR_ok) <|aI (@gdP_true) <|aI (@gdP_false) <|aI (@gdT_true) <|aI (@gdT_false) <|aI (@isB_t) <|aI (@isB_f) <|aI (@isB_u) <|aI (@condP_t) <|aI (@condP_f) <|aI (@nx_pick) <|aI (@nx_nil_ptr) <|aI (@nx_nil_func) <|aI (@p_same) <|aI (@p_ne) <|aI (@argE_0) <|aI (@argE_s) <|aI (@argE_nil) <|aI (@retP_0) <|aI (@retP_1) <|aI (@retP_2) <|aI (@retP_3) <|aI (@retP_c1) <|aI (@retP_ct) <|aI (@retP_tc) <|aI (@rcP_ptr) <|aI (@eq_self.{1}) <|aI (@ldV_cells) <|aI (@oV_some) <|aI (@run_extract) <|aI (@takeP_nil) <|aI (@takeP_nilf) <|aI (@takeP_pick) <|aI (@takeP_extract) <|aI (@takeP_not) <|aI (@takeP_add) <|aI (@takeP_sub) <|aI (@takeP_eqi) <|aI (@takeP_nei) <|aI (@takeP_lti) <|aI (@takeP_gti) <|aI (@takeP_lei) <|aI (@takeP_gei) <|aI (@takeP_eqs) <|aI (@takeP_nes) <|aI (@FrX_some) <|aI (@FrX_none) <|aI (@oL_some) <|aI (@fillL_nil) <|aI (@fillL_cons) <|aI (@fillS_some) <|aI (@orS_t) <|aI (@orS_f) <|aI (@run_makeFunc) <|aI (@run_min2) <|aI (@run_max2) <|aI (@run_not) <|aI (@wrap64) <|aI (@wrapU64) <|aI (@run_shr1) <|aI (@run_add) <|aI (@run_sub) <|aI (@run_eqi) <|aI (@run_nei) <|aI (@run_lti) <|aI (@run_lei) <|aI (@run_gti) <|aI (@run_gei) <|aI (@run_eqs) <|aI (@run_nes) <|aI (@run_lts) <|aI (@run_box) <|aI (@cond_true.{1}) <|aI (@get_alloc_new) <|aI (@get_alloc_is) <|aI (@get_alloc_old) <|aI (@get_setB_same) <|aI (@get_setB_ne) <|aI (@get_drew) <|aI (@get_drewN) <|aI (@size_alloc) <|aI (@size_setB) <|aI (@size_drew) <|aI (@size_drewN) <|aI (@stV_cells) <|aI (@setB_alloc) <|aI (@setB_alloc_is) <|aI (@setB_setB) <|aI (@ldnV_cells) <|aI (@ifV_T) <|aI (@and_self) <|aI (@and_true) <|aI (@true_and) <|aI (@decide_true) <|aI (@decide_false) <|aI (@List.toList_toArray.{0}) <|aI (@List.take_succ_cons.{0}) <|aI (@List.take_zero.{0}) <|aI (@List.drop_succ_cons.{0}) <|aI (@List.drop_zero.{0}) <|aI (@List.length_cons.{0}) <|aI (@List.length_nil.{0}) <|aI (@List.all_cons.{0}) <|aI (@List.all_nil.{0}) <|aI (@Bool.and_self) <|aI (@Option.getD_none.{0}) <|aI (@Option.getD_some.{0}) <|aI (@Option.isSome_some.{0}) <|aI (@Option.isSome_none.{0}) <|aI (@Bool.not_true) <|aI (@Bool.not_false) <|aI (@if_true.{1}) <|aI (@if_false.{1}) <|aI (@Bool.true_or) <|aI (@Bool.false_or) <|aI (@Bool.or_true) <|aI (@Bool.or_false) <|aI (@ne_eq.{1}) <|aI (@not_false_eq_true) <|aI (@not_true_eq_false) <|aI (@Bool.false_eq_true) <|aI (@List.getElem?_cons_zero.{0}) <|aI (@List.getElem?_cons_succ.{0}) <|aI (@List.nil_append.{0}) <|aI (@List.cons_append.{0}) <|aI (@List.append_nil.{0}) <|@Nat.zero_add
noncomputable def gt := aI (@ld3) <|aI (@tld3) <|aI (@ld4) <|aI (@tld4) <|aI (@ld9) <|aI (@tld9) <|aI (@ld31) <|aI (@tld31) <|aI (@ld33) <|aI (@tld33) <|aI (@ld50) <|aI (@tld50) <|aI (@ld51) <|aI (@tld51) <|aI (@ld53) <|aI (@tld53) <|aI (@ld60) <|aI (@tld60) <|aI (@st3) <|aI (@st5) <|aI (@st9) <|aI (@st31) <|aI (@st33) <|aI (@st53) <|aI (@st60) <|aI (@st112) <|aI (@al33) <|aI (@al53) <|aI (@al60) <|aI (@al63) <|aI (@al112) <|aI (@fa33_0) <|aI (@tfa33_0) <|aI (@fa33_1) <|aI (@tfa33_1) <|aI (@fa33_2) <|aI (@tfa33_2) <|aI (@fa33_3) <|aI (@tfa33_3) <|aI (@fa33_4) <|aI (@tfa33_4) <|aI (@fa33_5) <|aI (@tfa33_5) <|aI (@fa33_6) <|aI (@tfa33_6) <|aI (@fa33_7) <|aI (@tfa33_7) <|aI (@fa53_0) <|aI (@tfa53_0) <|aI (@fa53_1) <|aI (@tfa53_1) <|aI (@fa53_2) <|aI (@tfa53_2) <|aI (@fa53_3) <|aI (@tfa53_3) <|aI (@fa58_0) <|aI (@tfa58_0) <|aI (@fa58_1) <|aI (@tfa58_1) <|aI (@fa60_0) <|aI (@tfa60_0) <|aI (@fa60_1) <|aI (@tfa60_1) <|aI (@bd33) <|aI (@tbd33) <|aI (@bd53) <|aI (@tbd53) <|aI (@bd58) <|aI (@tbd58) <|aI (@bd60) <|aI (@tbd60) <|aI (@ia23) <|aI (@tia23) <|aI (@ia31) <|aI (@tia31) <|aI (@ia43) <|aI (@tia43) <|aI (@ia45) <|aI (@tia45) <|aI (@ia47) <|aI (@tia47) <|aI (@eq60) <|aI (@teq60) <|aI (@ne60) <|aI (@tne60) <|aI (@len9) <|aI (@tlen9) <|aI (@len23) <|aI (@tlen23) <|aI (@len31) <|aI (@tlen31) <|aI (@len43) <|aI (@tlen43) <|aI (@len45) <|aI (@tlen45) <|aI (@len47) <|aI (@tlen47) <|aI (@cv2_5) <|aI (@tcv2_5) <|aI (@cv5_3) <|aI (@tcv5_3) <|aI (@cv5_21) <|aI (@tcv5_21) <|aI (@cv21_3) <|aI (@tcv21_3) <|aI (@cv21_5) <|aI (@tcv21_5) <|aI (@cv42_3) <|aI (@tcv42_3) <|aI (@bs23_0) <|aI (@bs23_1) <|aI (@bs31_1) <|aI (@bs43_1) <|aI (@bs45_16) <|aI (@bs47_1) <|aI (@xc8) <|aI (@xc9) <|aI (@xc10) <|aI (@xc11) <|aI (@xc12) <|aI (@xc13) <|aI (@xc14) <|aI (@xc15) <|aI (@xc16) <|aI (@xc17) <|aI (@xc18) <|aI (@xc19) <|aI (@xc20) <|aI (@xc21) <|aI (@xc22) <|aI (@xc23) <|aI (@xc24) <|aI (@xc25) <|aI (@xc26) <|aI (@xc34) <|aI (@xc36) <|aI (@xc37) <|aI (@xc38) <|aI (@xc39) <|aI (@xc40) <|aI (@xc41) <|aI (@xc42) <|aI (@xc43) <|aI (@xc45) <|aI (@xc46) <|aI (@xc47) <|aI (@xc51) <|aI (@xc52) <|aI (@xc54) <|aI (@xc63) <|aI (@xc67) <|aI (@xc74) <|aI (@xc75) <|aI (@xc76) <|aI (@xc77) <|aI (@xc85) <|@xc86
noncomputable def gd := aI gsd <|aI (@stays_f) (@stays_fr)
noncomputable def gp := aI gs <|aI gt <|aI gv <|aI (@stays_xv) <|aI (@true_or) <|aI (@or_true) <|aI (@frT_self) <|aI (@frT_drew) <|aI (@frT_drew0) <|@frT_alloc
noncomputable def gz := aI (@size_alloc) <|aI (@size_setB) <|aI (@size_drew) <|aI (@size_drewN) <|aI (@List.length_cons.{0}) <|aI (@List.length_nil.{0}) <|aI (@List.toList_toArray.{0}) <|aI (@List.take_succ_cons.{0}) <|aI (@List.take_zero.{0}) <|aI (@List.drop_succ_cons.{0}) <|aI (@List.drop_zero.{0}) <|aI (@List.all_cons.{0}) <|aI (@List.all_nil.{0}) <|@Bool.and_self
noncomputable def dz := aI gv <|aI (@size_alloc) <|aI (@size_setB) <|aI (@size_drew) <|aI (@size_drewN) <|aI (@List.length_cons.{0}) <|aI (@List.length_nil.{0}) <|aI (@List.toList_toArray.{0}) <|aI (@List.take_succ_cons.{0}) <|aI (@List.take_zero.{0}) <|aI (@List.drop_succ_cons.{0}) <|aI (@List.drop_zero.{0}) <|aI (@List.all_cons.{0}) <|aI (@List.all_nil.{0}) <|aI (@Bool.and_self) <|aI (@curE_alloc) <|aI (@curE_setB) <|aI (@curE_drew) <|aI (@curE_drewN) <|aI (@frS_refl) <|aI (@frT_drew) <|aI (@frT_drew0) <|aI (@List.mem_cons.{0}) <|aI (@List.not_mem_nil.{0}) <|aI (@or_false) <|@not_false_eq_true
end Go.Proofs.YtbbjnplellanaaaDoor
