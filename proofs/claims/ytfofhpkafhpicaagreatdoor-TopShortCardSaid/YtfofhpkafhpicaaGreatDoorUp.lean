/- Closed calls, all of them. -/
import Derived.Test.YtfofhpkafhpicaaGreatDoorUpv0
import Derived.Test.YtfofhpkafhpicaaGreatDoorUpv1
import Derived.Test.YtfofhpkafhpicaaGreatDoorUpv2
import Derived.Test.YtfofhpkafhpicaaGreatDoorUpv3
import Derived.Test.YtfofhpkafhpicaaGreatDoorUpv4
import Derived.Test.YtfofhpkafhpicaaGreatDoorUpv5
import Derived.Test.YtfofhpkafhpicaaGreatDoorUpv6
import Derived.Test.YtfofhpkafhpicaaGreatDoorUpv7
import Derived.Test.YtfofhpkafhpicaaGreatDoorUpv8
import Derived.Test.YtfofhpkafhpicaaGreatDoorUpv9
import Derived.Test.YtfofhpkafhpicaaGreatDoorUpv10
import Derived.Test.YtfofhpkafhpicaaGreatDoorUpv11
namespace Go.Proofs.YtfofhpkafhpicaaGreatDoor
open Go.RowKit

theorem upC0_is : upC0.ok Tryz.prog := upC0_ok fun c hc => by
  cases hc
theorem upC1_is : upC1.ok Tryz.prog := upC1_ok fun c hc => by
  simp only [List.mem_cons, List.not_mem_nil, or_false] at hc
  exact hc ▸ upC0_is
theorem upC2_is : upC2.ok Tryz.prog := upC2_ok fun c hc => by
  cases hc
theorem upC3_is : upC3.ok Tryz.prog := upC3_ok fun c hc => by
  cases hc
theorem upC4_is : upC4.ok Tryz.prog := upC4_ok fun c hc => by
  cases hc
theorem upC5_is : upC5.ok Tryz.prog := upC5_ok fun c hc => by
  simp only [List.mem_cons, List.not_mem_nil, or_false] at hc
  exact hc ▸ upC4_is
theorem upC6_is : upC6.ok Tryz.prog := upC6_ok fun c hc => by
  cases hc
theorem upC7_is : upC7.ok Tryz.prog := upC7_ok fun c hc => by
  cases hc
theorem upC8_is : upC8.ok Tryz.prog := upC8_ok fun c hc => by
  simp only [List.mem_cons, List.not_mem_nil, or_false] at hc
  exact hc ▸ upC7_is
theorem upC9_is : upC9.ok Tryz.prog := upC9_ok fun c hc => by
  simp only [List.mem_cons, List.not_mem_nil, or_false] at hc
  exact hc ▸ upC8_is
theorem upC10_is : upC10.ok Tryz.prog := upC10_ok fun c hc => by
  cases hc
theorem upC11_is : upC11.ok Tryz.prog := upC11_ok fun c hc => by
  simp only [List.mem_cons, List.not_mem_nil, or_false] at hc
  exact hc ▸ upC10_is
theorem upC12_is : upC12.ok Tryz.prog := upC12_ok fun c hc => by
  cases hc
theorem upC13_is : upC13.ok Tryz.prog := upC13_ok fun c hc => by
  simp only [List.mem_cons, List.not_mem_nil, or_false] at hc
  exact hc ▸ upC12_is
theorem upC14_is : upC14.ok Tryz.prog := upC14_ok fun c hc => by
  simp only [List.mem_cons, List.not_mem_nil, or_false] at hc
  exact hc ▸ upC13_is
theorem upC15_is : upC15.ok Tryz.prog := upC15_ok fun c hc => by
  cases hc
theorem upC16_is : upC16.ok Tryz.prog := upC16_ok fun c hc => by
  simp only [List.mem_cons, List.not_mem_nil, or_false] at hc
  exact hc ▸ upC15_is
theorem upC17_is : upC17.ok Tryz.prog := upC17_ok fun c hc => by
  cases hc
theorem upC18_is : upC18.ok Tryz.prog := upC18_ok fun c hc => by
  simp only [List.mem_cons, List.not_mem_nil, or_false] at hc
  exact hc ▸ upC17_is
theorem upC19_is : upC19.ok Tryz.prog := upC19_ok fun c hc => by
  simp only [List.mem_cons, List.not_mem_nil, or_false] at hc
  exact hc ▸ upC18_is
theorem upC20_is : upC20.ok Tryz.prog := upC20_ok fun c hc => by
  cases hc
theorem upC21_is : upC21.ok Tryz.prog := upC21_ok fun c hc => by
  simp only [List.mem_cons, List.not_mem_nil, or_false] at hc
  exact hc ▸ upC20_is
theorem upC22_is : upC22.ok Tryz.prog := upC22_ok fun c hc => by
  simp only [List.mem_cons, List.not_mem_nil, or_false] at hc
  rcases hc with rfl | rfl | rfl | rfl | rfl | rfl | rfl | rfl | rfl | rfl
  · exact upC21_is
  · exact upC19_is
  · exact upC16_is
  · exact upC14_is
  · exact upC11_is
  · exact upC9_is
  · exact upC6_is
  · exact upC5_is
  · exact upC3_is
  · exact upC2_is
end Go.Proofs.YtfofhpkafhpicaaGreatDoor
