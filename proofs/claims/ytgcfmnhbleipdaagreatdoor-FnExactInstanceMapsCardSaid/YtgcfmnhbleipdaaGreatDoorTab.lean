/- The types of the program, written out. No condition. -/
import Derived.Test.YtgcfmnhbleipdaaGreatDoorBmSeven
import Derived.Test.YtgcfmnhbleipdaaGreatDoorProg
namespace Go.Bm
open Go.Proofs
set_option maxRecDepth 100000
abbrev ya0(g:Nat)(h:Option TypeId)(i:Option IntKind)(m:Bool):Ty:=.mk true false false false false 1 g h i none [] none m
abbrev ya1(f:Nat)(g:Nat)(k:List (Nat×Nat×Nat)):Ty:=.mk true true false false true f g none none none k none false
abbrev ya2:Ty:=(ya0 8 none none false)
abbrev ya3:Ty:=(ya0 0 none none false)
abbrev ya4:Ty:=(ya0 16 none none true)
abbrev ya5:Ty:=(ya0 8 none (some .u64) false)
abbrev ya6:Ty:=(ya0 1 none (some .u8) false)
abbrev ya7:Ty:=(ya1 1 8 [(0,(17,1))])
abbrev ya8:Ty:=(ya0 4 none (some .i32) false)
abbrev ya9:Ty:=(ya0 8 none (some .i64) false)
abbrev yb0:Ty:=(ya0 24 (some 2) none false)
abbrev yb1:Ty:=(ya1 5 104 [(0,(2,1)),(1,(22,1)),(2,(22,1)),(3,(22,1)),(4,(27,1))])
abbrev yb2:Ty:=(ya1 2 32 [(0,(2,1)),(1,(22,1))])
abbrev yb3:Ty:=(ya1 4 24 [(0,(2,1)),(1,(3,1)),(2,(4,1)),(3,(6,1))])
abbrev yb4:Ty:=(ya1 2 24 [(0,(9,1)),(1,(12,1))])
abbrev yb5:Ty:=(ya1 5 104 [(0,(2,1)),(1,(22,1)),(2,(22,1)),(3,(23,1)),(4,(23,1))])
abbrev yb6:Ty:=(ya1 5 104 [(0,(2,1)),(1,(22,1)),(2,(22,1)),(3,(30,1)),(4,(30,1))])
abbrev yb7:Ty:=(ya1 7 152 [(0,(57,5)),(5,(22,1)),(6,(27,1))])
abbrev yb8:Ty:=(ya1 7 152 [(0,(29,5)),(5,(22,1)),(6,(27,1))])
abbrev yb9:Ty:=(ya1 7 152 [(0,(29,5)),(5,(30,1)),(6,(22,1))])
abbrev yc0:Ty:=(ya1 8 160 [(0,(84,1)),(1,(29,5)),(6,(22,1)),(7,(30,1))])
abbrev yc1:Ty:=(ya1 2 16 [(0,(2,1)),(1,(2,1))])
abbrev yc2:Ty:=(ya1 1 16 [(0,(9,1))])
abbrev yc3:Ty:=(ya1 3 56 [(0,(134,1)),(1,(135,1)),(2,(30,1))])
abbrev yc4:Ty:=(ya1 3 24 [(0,(17,1)),(1,(140,1)),(2,(141,1))])
abbrev yc5:Ty:=(ya1 4 40 [(0,(17,1)),(1,(17,1)),(2,(17,1)),(3,(9,1))])
abbrev yc6:Ty:=(ya1 0 0 [(0,(216,0))])
abbrev yc7:Ty:=(ya1 11 48 [(0,(12,1)),(1,(12,1)),(2,(201,1)),(3,(221,1)),(4,(5,1)),(5,(5,1)),(6,(148,1)),(7,(222,1)),(8,(223,1)),(9,(224,1)),(10,(225,1))])
abbrev yc8:Ty:=(ya1 2 24 [(0,(9,1)),(1,(148,1))])
abbrev yc9:Ty:=(ya1 5 16 [(0,(224,1)),(1,(234,1)),(2,(234,1)),(3,(201,1)),(4,(201,1))])
abbrev yd0:Ty:=(ya1 4 16 [(0,(224,1)),(1,(225,1)),(2,(238,1)),(3,(238,1))])
abbrev yd1:T:=(.sl (.int .i64))
abbrev yd2:T:=(.p (.int .i64) (.p yd1 (.p yd1 (.p yd1 (.sl yd1)))))
abbrev yd3:T:=(.sl (.p (.int .i64) yd1))
abbrev yd4:T:=(.p (.int .u64) (.p (.int .u64) (.p (.int .u32) (.p (.int .u8) (.p (.int .u8) (.p (.int .u8) (.p (.int .u8) (.p .any (.p .any (.p (.int .i32) (.int .i32)))))))))))
abbrev yd5:T:=(.p (.int .i64) (.p yd1 (.p yd1 (.p yd3 yd3))))
abbrev yd6:T:=(.p (.int .i32) (.p (.int .i32) (.p (.int .i32) (.int .i32))))
abbrev yd7:T:=(.int .i64)
abbrev yd8:T:=(.p (.int .i32) (.p (.int .u16) (.p (.int .u16) (.p (.int .u32) (.int .u32)))))
abbrev yd9:T:=(.p yd2 (.p yd1 (.sl yd1)))
abbrev ye0:T:=(.int .u64)
abbrev ye1:T:=(.int .u8)
abbrev ye2:T:=(.p .any (.p .any (.p .any .str)))
abbrev ye3:T:=(.p yd7 (.p yd7 (.p .bool ye1)))
abbrev ye4:T:=(.p .any (.p yd2 (.p yd1 yd3)))
abbrev ye5:T:=(.p .any (.p .any ye0))
abbrev ye6:T:=(.int .i32)
abbrev ye7:T:=(.p yd2 (.p yd3 yd1))
abbrev ye8:T:=(.p .any (.p yd1 yd3))
abbrev ye9:T:=(.p yd7 yd1)
abbrev yf0:T:=(.p .str ye0)
abbrev yf1:T:=(.p .str ye1)
abbrev yf2:T:=(.p yd7 (.ns yd1))
abbrev yf3:T:=(.p yd7 yd7)
def tys:List Ty:=[ya3,ya2,ya9,ya9,(.mk true false true false false 1 1 none none none [] none false),ya6,ya6,yb3,yb3,(.mk true false false true false 1 16 none none none [] none false),(.mk true false false true false 1 16 none none none [] none false),(.mk true false false true false 1 16 none none none [] none false),ya5,yb4,yb4,ya2,ya2,ya2,ya7,ya7,ya4,ya8,yb0,(ya0 24 (some 46) none false),yb5,yb5,ya2,(ya0 24 (some 22) none false),yb1,yb1,(ya0 24 (some 50) none false),ya3,ya2,yb6,yb6,ya2,ya2,ya2,ya2,ya2,ya2,ya2,ya2,ya2,ya2,yb2,yb2,ya2,ya3,ya2,yb2,ya2,ya2,ya2,ya3,ya2,ya2,yb1,yb7,yb7,ya2,ya3,ya2,yb8,yb8,ya2,ya2,ya2,ya2,ya2,ya2,ya2,ya2,yb9,yb9,ya3,ya2,ya2,ya2,ya2,ya2,ya2,ya3,ya2,ya2,yc0,yc0,ya2,ya2,ya2,ya2,yc1,yc1,ya2,ya2,ya2,ya2,ya2,ya2,ya2,ya2,ya2,ya2,ya2,ya2,ya3,ya2,ya2,ya2,ya2,ya2,ya2,ya3,ya2,ya4,ya4,ya3,ya2,yc2,yc2,ya2,ya2,ya2,ya2,ya3,ya2,ya2,ya2,ya2,ya2,ya2,ya3,ya2,ya2,(.mk true false false false false 1 8 none none (some (9,2)) [] none false),yb0,yc3,yc3,ya2,ya2,ya2,ya5,yc4,yc4,ya2,ya4,ya4,ya2,ya6,ya2,ya2,ya2,ya2,ya2,ya2,ya2,ya3,ya2,ya2,yb0,ya2,ya2,ya2,ya2,ya2,ya2,ya2,ya2,ya2,ya7,ya7,ya2,ya2,ya2,ya2,ya4,ya3,ya2,ya4,ya2,ya4,(ya0 24 (some 115) none false),ya2,ya2,ya2,ya2,ya2,ya2,ya2,ya5,(ya0 24 (some 5) none false),(.mk true false false false false 1 8 none none (some (2,2)) [] none false),ya2,ya9,ya3,ya2,ya2,ya2,ya3,ya2,ya2,(ya0 4 none (some .u32) false),ya2,ya5,ya5,ya2,ya2,ya2,ya2,ya2,ya2,ya3,ya2,ya2,yc5,yc5,(.mk true true false false false 0 0 none none none [] (some (16,0)) false),
yc6,yc6,ya2,ya2,ya6,ya2,ya2,ya8,ya8,yc7,yc7,ya2,ya2,yc8,yc8,ya2,ya2,(ya0 2 none (some .u16) false),yc9,yc9,(ya0 24 (some 240) none false),ya8,yd0,yd0,ya2]
def tyd:List T:=[.any,.any,yd7,yd7,.bool,ye1,ye1,ye3,ye3,.str,.str,.str,ye0,yf0,yf0,.any,.any,.any,.any,.any,.any,ye6,yd1,yd3,yd5,yd5,.any,(.sl yd1),yd2,yd2,yd3,.any,.any,yd5,yd5,.any,.any,.any,.any,.any,.any,.any,.any,.any,.any,ye9,ye9,.any,.any,.any,ye9,.any,.any,.any,.any,.any,.any,yd2,yd9,yd9,.any,.any,.any,yd9,yd9,.any,.any,.any,.any,.any,.any,.any,.any,ye7,ye7,.any,.any,.any,.any,.any,.any,.any,.any,.any,.any,ye4,ye4,.any,.any,.any,.any,yf3,yf3,.any,.any,.any,.any,.any,.any,.any,.any,.any,.any,.any,.any,.any,.any,.any,.any,.any,.any,.any,.any,.any,.any,.any,.any,.any,.str,.str,.any,.any,.any,.any,.any,.any,.any,.any,.any,.any,.any,.any,.any,.any,.any,yd1,ye8,ye8,.any,.any,.any,ye0,ye5,ye5,.any,.any,.any,.any,ye1,.any,.any,.any,.any,.any,.any,.any,.any,.any,.any,yd1,.any,.any,.any,.any,.any,.any,.any,.any,.any,.any,.any,.any,.any,.any,.any,.any,.any,.any,.any,.any,.any,(.sl .any),.any,.any,.any,.any,.any,.any,.any,ye0,(.sl ye1),.any,.any,yd7,.any,.any,.any,.any,.any,.any,.any,(.int .u32),.any,ye0,ye0,.any,.any,.any,.any,.any,.any,.any,.any,.any,ye2,ye2,.u,.u,.u,.any,.any,ye1,.any,.any,ye6,ye6,yd4,yd4,.any,.any,yf1,yf1,.any,.any,(.int .u16),yd8,yd8,(.sl yd6),ye6,yd6,yd6,.any]
def tyz:List Bool:=[false,true,true,true,true,true,true,true,true,true,true,true,true,true,true,true,true,true,true,true,true,true,true,true,true,true,true,true,true,true,true,false,true,true,true,true,true,true,true,true,true,true,true,true,true,true,true,true,false,true,true,true,true,true,false,true,true,true,true,true,true,false,true,true,true,true,true,true,true,true,true,true,true,true,true,false,true,true,true,true,true,true,false,true,true,true,true,true,true,true,true,true,true,true,true,true,true,true,true,true,true,true,true,true,true,false,true,true,true,true,true,true,false,true,true,true,false,true,true,true,true,true,true,true,false,true,true,true,true,true,true,false,true,true,true,true,true,true,true,true,true,true,true,true,true,true,true,true,true,true,true,true,true,true,true,true,false,true,true,true,true,true,true,true,true,true,true,true,true,true,true,true,true,true,true,true,false,true,true,true,true,true,true,true,true,true,true,true,true,true,true,true,true,true,false,true,true,true,false,true,true,true,true,true,true,true,true,true,true,true,true,false,true,true,true,true,true,true,true,true,true,true,true,true,true,true,true,true,true,true,true,true,true,true,true,true,true,true,true,true,true,true]
def tyq:List Nat:=[0,0,0,0,0,0,0,0,0,0,0,0,0,0,0,0,0,0,0,0,0,0,0,0,0,0,0,0,0,0,0,0,0,0,0,0,0,0,0,0,0,0,0,0,0,0,0,0,0,0,0,0,0,0,0,0,0,0,0,0,0,0,0,0,0,0,0,0,0,0,0,0,0,0,0,0,0,0,0,0,0,0,0,0,0,0,0,0,0,0,0,2,2,0,0,0,0,0,0,0,0,0,0,0,0,0,0,0,0,0,0,0,0,0,0,0,0,0,0,0,0,0,0,0,0,0,0,0,0,0,0,0,0,0,0,0,0,0,0,0,0,0,0,0,0,0,0,0,0,0,0,0,0,0,0,0,0,0,0,0,0,0,0,0,0,0,0,0,0,0,0,0,0,0,0,0,0,0,0,0,0,0,0,0,0,0,0,0,0,0,0,0,0,0,0,0,0,0,0,0,0,0,0,0,0,0,0,0,0,0,0,0,0,0,0,0,0,0,0,0,0,0,0,0,0,0,0,0,0,0,0,0,0,0,0,0,0,0,0,0,0,0]
def tab:Tab:=bhz tys tyd tyz tyq
theorem ba:TabOk Tryz.prog tab:=bba 242 tys tyd tyz tyq (by kernel_rfl) (by kernel_rfl) (by kernel_rfl)
def tydN:List T:=[.any,.any,yd7,yd7,.bool,ye1,ye1,ye3,ye3,.str,.str,.str,ye0,yf0,yf0,.any,.any,.any,.any,.any,.any,ye6,(.ns yd1),yd3,yd5,yd5,.any,(.sl yd1),yd2,yd2,(.sl yf2),.any,.any,yd5,yd5,.any,.any,.any,.any,.any,.any,.any,.any,.any,.any,ye9,ye9,.any,.any,.any,yf2,.any,.any,.any,.any,.any,.any,yd2,yd9,yd9,.any,.any,.any,yd9,yd9,.any,.any,.any,.any,.any,.any,.any,.any,ye7,ye7,.any,.any,.any,.any,.any,.any,.any,.any,.any,.any,ye4,ye4,.any,.any,.any,.any,yf3,yf3,.any,.any,.any,.any,.any,.any,.any,.any,.any,.any,.any,.any,.any,.any,.any,.any,.any,.any,.any,.any,.any,.any,.any,.any,.any,.str,.str,.any,.any,.any,.any,.any,.any,.any,.any,.any,.any,.any,.any,.any,.any,.any,yd1,ye8,(.p .any (.p yd1 (.sl yf2))),.any,.any,.any,ye0,ye5,ye5,.any,.any,.any,.any,ye1,.any,.any,.any,.any,.any,.any,.any,.any,.any,.any,yd1,.any,.any,.any,.any,.any,.any,.any,.any,.any,.any,.any,.any,.any,.any,.any,.any,.any,.any,.any,.any,.any,(.sl .any),.any,.any,.any,.any,.any,.any,.any,ye0,(.sl ye1),.any,.any,yd7,.any,.any,.any,.any,.any,.any,.any,(.int .u32),.any,ye0,ye0,.any,.any,.any,.any,.any,.any,.any,.any,.any,ye2,ye2,.u,.u,.u,.any,.any,ye1,.any,.any,ye6,ye6,yd4,yd4,.any,.any,yf1,yf1,.any,.any,(.int .u16),yd8,yd8,(.sl yd6),ye6,yd6,yd6,.any]
def btu:Tab:=bhz tys tydN tyz tyq
theorem bcd:TabOk Tryz.prog btu:=bba 242 tys tydN tyz tyq (by kernel_rfl) (by kernel_rfl) (by kernel_rfl)
end Go.Bm
