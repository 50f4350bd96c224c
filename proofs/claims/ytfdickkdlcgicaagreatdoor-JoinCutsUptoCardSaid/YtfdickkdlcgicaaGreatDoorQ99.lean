/-
  Short names for laws of Lean's own library.
-/
import Derived.Lib.Hide
import Derived.KernelRfl
import Derived.Handy
import Derived.WalkKit
import Derived.Test.YtfdickkdlcgicaaGreatDoorChecked
namespace Go.Proofs.YtfdickkdlcgicaaGreatDoor
open Go Go.RowKit
def Kz (p : Prop) : Prop := p
theorem zz {p : Prop} (h : p) : Kz p := h
theorem Kz.o {p : Prop} (h : Kz p) : p := h
theorem Kz.out {p : Prop} (h : Kz p) : p := h
abbrev Bl (w W : World) : Prop := Below w.heap.size w W
theorem zo {p : Prop} (h : p := by kernel_rfl) : p := h
theorem zd {p : Prop} (h : p := by omega) : p := h
theorem zr {p : Prop} (h : p := by decide) : p := h
theorem zj {p : Prop} (h : p := by rfl) : p := h
theorem zp {p : Prop} (h : p := by simp) : p := h
theorem zt {p : Prop} (h : p := by simp[Value.oneCell']) : p := h
theorem za {p : Prop} (h : p := by assumption) : p := h
theorem zb {p : Prop} (h : p := by simp;omega) : p := h
theorem zc {p : Prop} (h : p := by trivial) : p := h
theorem ze {p : Prop} (h : p := by go_num) : p := h
theorem zpx:type_of% @Nat.le_refl:=@Nat.le_refl
theorem zpy:type_of% @List.mem_singleton:=@List.mem_singleton
theorem zpz:type_of% @Nat.lt_of_lt_of_le:=@Nat.lt_of_lt_of_le
theorem zpA:type_of% @List.length_append:=@List.length_append
theorem zpB:type_of% @List.getElem_mem:=@List.getElem_mem
theorem zpC:type_of% @List.take_succ_eq_append_getElem:=@List.take_succ_eq_append_getElem
theorem zpD:type_of% @Nat.zero_le:=@Nat.zero_le
theorem zpE:type_of% @List.mem_append:=@List.mem_append
theorem zpF:type_of% @List.getElem?_eq_getElem:=@List.getElem?_eq_getElem
theorem zpG:type_of% @And.intro:=@And.intro
theorem zpH:type_of% @List.getElem?_cons_zero:=@List.getElem?_cons_zero
theorem zpI:type_of% @List.nil_append:=@List.nil_append
theorem zpJ:type_of% @List.cons_append:=@List.cons_append
theorem zpK:type_of% @Nat.le_trans:=@Nat.le_trans
theorem zpL:type_of% @List.getElem?_toArray:=@List.getElem?_toArray
theorem zpM:type_of% @List.getElem?_cons_succ:=@List.getElem?_cons_succ
theorem zpN:type_of% @Array.getElem?_eq_some_iff:=@Array.getElem?_eq_some_iff
theorem zpO:type_of% @List.length_map:=@List.length_map
theorem zpP:type_of% @List.mem_cons_self:=@List.mem_cons_self
theorem zpQ:type_of% @List.mem_cons_of_mem:=@List.mem_cons_of_mem
theorem zpR:type_of% @List.mem_append_right:=@List.mem_append_right
theorem zpS:type_of% @List.mem_iff_getElem:=@List.mem_iff_getElem
theorem zpT:type_of% @List.take_of_length_le:=@List.take_of_length_le
theorem zpU:type_of% @List.mem_cons:=@List.mem_cons
theorem zpV:type_of% @List.length_cons:=@List.length_cons
theorem zpW:type_of% @List.getD_eq_getElem?_getD:=@List.getD_eq_getElem?_getD
theorem zpX:type_of% @List.append_assoc:=@List.append_assoc
theorem zpY:type_of% @List.take_zero:=@List.take_zero
theorem zpZ:type_of% @List.flatMap_cons:=@List.flatMap_cons
theorem zp0:type_of% @List.mem_append_left:=@List.mem_append_left
theorem zp1:type_of% @List.map_append:=@List.map_append
theorem zp2:type_of% @List.flatMap_append:=@List.flatMap_append
theorem zp3:type_of% @List.length_take:=@List.length_take
theorem zp4:type_of% @List.setIfInBounds_toArray:=@List.setIfInBounds_toArray
theorem zp5:type_of% @List.take_length:=@List.take_length
theorem zp6:type_of% @Nat.zero_add:=@Nat.zero_add
theorem zp7:type_of% @List.append_nil:=@List.append_nil
theorem zp8:type_of% @List.mem_map:=@List.mem_map
theorem zp9:type_of% @List.getElem?_eq_some_iff:=@List.getElem?_eq_some_iff
theorem zqa:type_of% @List.drop_eq_getElem_cons:=@List.drop_eq_getElem_cons
theorem zqb:type_of% @List.map_cons:=@List.map_cons
theorem zqc:type_of% @List.drop_of_length_le:=@List.drop_of_length_le
theorem zqd:type_of% @List.length_nil:=@List.length_nil
theorem zqe:type_of% @List.length_set:=@List.length_set
theorem zqf:type_of% @List.pairwise_iff_getElem:=@List.pairwise_iff_getElem
theorem zqg:type_of% @List.eq_nil_of_length_eq_zero:=@List.eq_nil_of_length_eq_zero
theorem zqh:type_of% @Option.map_some:=@Option.map_some
theorem zqi:type_of% @List.take_append_drop:=@List.take_append_drop
theorem zqj:type_of% @List.getElem_cons_zero:=@List.getElem_cons_zero
theorem zqk:type_of% @Nat.add_zero:=@Nat.add_zero
theorem zql:type_of% @Classical.byContradiction:=@Classical.byContradiction
theorem zqm:type_of% @List.set_cons_zero:=@List.set_cons_zero
theorem zqn:type_of% @Option.some.injEq:=@Option.some.injEq
theorem zqo:type_of% @Nat.pow_le_pow_right:=@Nat.pow_le_pow_right
theorem zqp:type_of% @List.filter_cons_of_neg:=@List.filter_cons_of_neg
theorem zqq:type_of% @Option.isSome_iff_exists:=@Option.isSome_iff_exists
theorem zqr:type_of% @Option.getD_some:=@Option.getD_some
theorem zqs:type_of% @List.length_singleton:=@List.length_singleton
theorem zqt:type_of% @List.getElem?_map:=@List.getElem?_map
theorem zqu:type_of% @Bool.and_eq_true:=@Bool.and_eq_true
theorem zqv:type_of% @List.set_cons_succ:=@List.set_cons_succ
theorem zqw:type_of% @Bool.false_eq_true:=@Bool.false_eq_true
theorem zqx:type_of% @List.take_append_of_le_length:=@List.take_append_of_le_length
theorem zqy:type_of% @ByteArray.size_append:=@ByteArray.size_append
theorem zqz:type_of% @List.getElem_map:=@List.getElem_map
theorem zqA:type_of% @List.mem_range:=@List.mem_range
theorem zqB:type_of% @Option.some.inj:=@Option.some.inj
theorem zqC:type_of% @List.length_drop:=@List.length_drop
theorem zqD:type_of% @Array.getElem?_eq_getElem:=@Array.getElem?_eq_getElem
theorem zqE:type_of% @List.mem_of_getElem?:=@List.mem_of_getElem?
theorem zqF:type_of% @Nat.mul_le_mul_right:=@Nat.mul_le_mul_right
theorem zqG:type_of% @Nat.le_succ:=@Nat.le_succ
theorem zqH:type_of% @List.map_singleton:=@List.map_singleton
theorem zqI:type_of% @Nat.mul_one:=@Nat.mul_one
theorem zqJ:type_of% @List.map_toArray:=@List.map_toArray
theorem zqK:type_of% @List.filter_cons_of_pos:=@List.filter_cons_of_pos
theorem zqL:type_of% @List.getElem?_append_right:=@List.getElem?_append_right
theorem zqM:type_of% @Int.le_refl:=@Int.le_refl
theorem zqN:type_of% @Array.getElem?_eq_none:=@Array.getElem?_eq_none
theorem zqO:type_of% @Nat.add_assoc:=@Nat.add_assoc
theorem zqP:type_of% @List.mem_flatMap:=@List.mem_flatMap
theorem zqQ:type_of% @List.foldl_append:=@List.foldl_append
theorem zqR:type_of% @List.getElem_set_self:=@List.getElem_set_self
theorem zqS:type_of% @List.length_filter_le:=@List.length_filter_le
theorem zqT:type_of% @List.length_replicate:=@List.length_replicate
theorem zqU:type_of% @Option.toList_some:=@Option.toList_some
theorem zqV:type_of% @Bool.false_ne_true:=@Bool.false_ne_true
theorem zqW:type_of% @List.mem_of_mem_take:=@List.mem_of_mem_take
theorem zqX:type_of% @Nat.zero_mul:=@Nat.zero_mul
theorem zqY:type_of% @List.not_mem_nil:=@List.not_mem_nil
theorem zqZ:type_of% @List.getElem_cons_succ:=@List.getElem_cons_succ
theorem zq0:type_of% @List.size_toArray:=@List.size_toArray
theorem zq1:type_of% @List.getElem?_append_left:=@List.getElem?_append_left
theorem zq2:type_of% @Nat.lt_irrefl:=@Nat.lt_irrefl
theorem zq3:type_of% @List.map_nil:=@List.map_nil
theorem zq4:type_of% @Nat.le_of_eq:=@Nat.le_of_eq
theorem zq5:type_of% @List.getElem?_eq_none:=@List.getElem?_eq_none
theorem zq6:type_of% @List.getElem_append_left:=@List.getElem_append_left
theorem zq7:type_of% @Array.replicate_succ:=@Array.replicate_succ
theorem zq8:type_of% @Array.replicate_zero:=@Array.replicate_zero
theorem zq9:type_of% @Nat.add_sub_cancel_left:=@Nat.add_sub_cancel_left
theorem zra:type_of% @Option.bind_eq_some_iff:=@Option.bind_eq_some_iff
theorem zrb:type_of% @Nat.le_of_lt:=@Nat.le_of_lt
theorem zrc:type_of% @List.nodup_append:=@List.nodup_append
theorem zrd:type_of% @List.mem_filter:=@List.mem_filter
theorem zre:type_of% @List.getElem_set_ne:=@List.getElem_set_ne
theorem zrf:type_of% @List.range_succ:=@List.range_succ
theorem zrg:type_of% @List.append_toArray:=@List.append_toArray
theorem zrh:type_of% @List.map_congr_left:=@List.map_congr_left
theorem zri:type_of% @List.filter_eq_nil_iff:=@List.filter_eq_nil_iff
theorem zrj:type_of% @List.ext_getElem:=@List.ext_getElem
theorem zrk:type_of% @List.filter_append:=@List.filter_append
theorem zrl:type_of% @Nat.add_right_comm:=@Nat.add_right_comm
theorem zrm:type_of% @List.drop_zero:=@List.drop_zero
theorem zrn:type_of% @List.push_toArray:=@List.push_toArray
theorem zro:type_of% @List.length_range:=@List.length_range
theorem zrp:type_of% @Nat.sub_self:=@Nat.sub_self
theorem zrq:type_of% @Nat.succ_mul:=@Nat.succ_mul
theorem zrr:type_of% @Array.length_toList:=@Array.length_toList
theorem zrs:type_of% @List.flatMap_def:=@List.flatMap_def
theorem zrt:type_of% @List.getElem_set:=@List.getElem_set
theorem zru:type_of% @List.flatMap_nil:=@List.flatMap_nil
theorem zrv:type_of% @Option.bind_some:=@Option.bind_some
theorem zrw:type_of% @List.prefix_refl:=@List.prefix_refl
theorem zrx:type_of% @Nat.mul_le_mul:=@Nat.mul_le_mul
theorem zry:type_of% @Nat.one_mul:=@Nat.one_mul
theorem zrz:type_of% @Nat.lt_or_ge:=@Nat.lt_or_ge
theorem zrA:type_of% @Ne.symm:=@Ne.symm
end Go.Proofs.YtfdickkdlcgicaaGreatDoor
