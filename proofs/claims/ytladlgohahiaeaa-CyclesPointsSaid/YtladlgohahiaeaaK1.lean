/- Written by mkcode.py: that code is the program's. -/
import Derived.Test.YtladlgohahiaeaaM3
import Derived.Test.YtladlgohahiaeaaChecked
import Derived.KernelRfl
import Derived.Test.YtladlgohahiaeaaC2
set_option linter.unusedSimpArgs false
set_option linter.unusedVariables false
namespace Go.Absm.D
open Go Go.Absm Go.Proofs
theorem e3 : CodeOk Try.prog 3 c3 := ⟨Try.f3, vm3, Try.func3, by kernel_rfl, by kernel_rfl⟩
theorem e5 : CodeOk Try.prog 5 c5 := ⟨Try.f5, vm5, Try.func5, by kernel_rfl, by kernel_rfl⟩
theorem e6 : CodeOk Try.prog 6 c6 := ⟨Try.f6, vm6, Try.func6, by kernel_rfl, by kernel_rfl⟩
theorem e7 : CodeOk Try.prog 7 c7 := ⟨Try.f7, vm7, Try.func7, by kernel_rfl, by kernel_rfl⟩
theorem e8 : CodeOk Try.prog 8 c8 := ⟨Try.f8, vm8, Try.func8, by kernel_rfl, by kernel_rfl⟩
theorem e9 : CodeOk Try.prog 9 c9 := ⟨Try.f9, vm9, Try.func9, by kernel_rfl, by kernel_rfl⟩
theorem e10 : CodeOk Try.prog 10 c10 := ⟨Try.f10, vm10, Try.func10, by kernel_rfl, by kernel_rfl⟩
theorem e11 : CodeOk Try.prog 11 c11 := ⟨Try.f11, vm11, Try.func11, by kernel_rfl, by kernel_rfl⟩
theorem e13 : CodeOk Try.prog 13 c13 := ⟨Try.f13, vm13, Try.func13, by kernel_rfl, by kernel_rfl⟩
theorem e14 : CodeOk Try.prog 14 c14 := ⟨Try.f14, vm14, Try.func14, by kernel_rfl, by kernel_rfl⟩
theorem e15 : CodeOk Try.prog 15 c15 := ⟨Try.f15, vm15, Try.func15, by kernel_rfl, by kernel_rfl⟩
theorem e16 : CodeOk Try.prog 16 c16 := ⟨Try.f16, vm16, Try.func16, by kernel_rfl, by kernel_rfl⟩
theorem e17 : CodeOk Try.prog 17 c17 := ⟨Try.f17, vm17, Try.func17, by kernel_rfl, by kernel_rfl⟩
theorem e18 : CodeOk Try.prog 18 c18 := ⟨Try.f18, vm18, Try.func18, by kernel_rfl, by kernel_rfl⟩
theorem e25 : CodeOk Try.prog 25 c25 := ⟨Try.f25, vm25, Try.func25, by kernel_rfl, by kernel_rfl⟩
theorem e26 : CodeOk Try.prog 26 c26 := ⟨Try.f26, vm26, Try.func26, by kernel_rfl, by kernel_rfl⟩
theorem e27 : CodeOk Try.prog 27 c27 := ⟨Try.f27, vm27, Try.func27, by kernel_rfl, by kernel_rfl⟩
theorem e28 : CodeOk Try.prog 28 c28 := ⟨Try.f28, vm28, Try.func28, by kernel_rfl, by kernel_rfl⟩
theorem e29 : CodeOk Try.prog 29 c29 := ⟨Try.f29, vm29, Try.func29, by kernel_rfl, by kernel_rfl⟩
theorem e30 : CodeOk Try.prog 30 c30 := ⟨Try.f30, vm30, Try.func30, by kernel_rfl, by kernel_rfl⟩
theorem e31 : CodeOk Try.prog 31 c31 := ⟨Try.f31, vm31, Try.func31, by kernel_rfl, by kernel_rfl⟩
theorem e32 : CodeOk Try.prog 32 c32 := ⟨Try.f32, vm32, Try.func32, by kernel_rfl, by kernel_rfl⟩
theorem e33 : CodeOk Try.prog 33 c33 := ⟨Try.f33, vm33, Try.func33, by kernel_rfl, by kernel_rfl⟩
theorem e34 : CodeOk Try.prog 34 c34 := ⟨Try.f34, vm34, Try.func34, by kernel_rfl, by kernel_rfl⟩
theorem e35 : CodeOk Try.prog 35 c35 := ⟨Try.f35, vm35, Try.func35, by kernel_rfl, by kernel_rfl⟩
theorem e36 : CodeOk Try.prog 36 c36 := ⟨Try.f36, vm36, Try.func36, by kernel_rfl, by kernel_rfl⟩
theorem e37 : CodeOk Try.prog 37 c37 := ⟨Try.f37, vm37, Try.func37, by kernel_rfl, by kernel_rfl⟩
theorem e38 : CodeOk Try.prog 38 c38 := ⟨Try.f38, vm38, Try.func38, by kernel_rfl, by kernel_rfl⟩
theorem e39 : CodeOk Try.prog 39 c39 := ⟨Try.f39, vm39, Try.func39, by kernel_rfl, by kernel_rfl⟩
theorem e40 : CodeOk Try.prog 40 c40 := ⟨Try.f40, vm40, Try.func40, by kernel_rfl, by kernel_rfl⟩
theorem e41 : CodeOk Try.prog 41 c41 := ⟨Try.f41, vm41, Try.func41, by kernel_rfl, by kernel_rfl⟩
theorem e42 : CodeOk Try.prog 42 c42 := ⟨Try.f42, vm42, Try.func42, by kernel_rfl, by kernel_rfl⟩
theorem e43 : CodeOk Try.prog 43 c43 := ⟨Try.f43, vm43, Try.func43, by kernel_rfl, by kernel_rfl⟩
theorem e44 : CodeOk Try.prog 44 c44 := ⟨Try.f44, vm44, Try.func44, by kernel_rfl, by kernel_rfl⟩
theorem e45 : CodeOk Try.prog 45 c45 := ⟨Try.f45, vm45, Try.func45, by kernel_rfl, by kernel_rfl⟩
theorem e46 : CodeOk Try.prog 46 c46 := ⟨Try.f46, vm46, Try.func46, by kernel_rfl, by kernel_rfl⟩
theorem e47 : CodeOk Try.prog 47 c47 := ⟨Try.f47, vm47, Try.func47, by kernel_rfl, by kernel_rfl⟩
theorem e48 : CodeOk Try.prog 48 c48 := ⟨Try.f48, vm48, Try.func48, by kernel_rfl, by kernel_rfl⟩
theorem e49 : CodeOk Try.prog 49 c49 := ⟨Try.f49, vm49, Try.func49, by kernel_rfl, by kernel_rfl⟩
theorem e50 : CodeOk Try.prog 50 c50 := ⟨Try.f50, vm50, Try.func50, by kernel_rfl, by kernel_rfl⟩
theorem e51 : CodeOk Try.prog 51 c51 := ⟨Try.f51, vm51, Try.func51, by kernel_rfl, by kernel_rfl⟩
theorem e52 : CodeOk Try.prog 52 c52 := ⟨Try.f52, vm52, Try.func52, by kernel_rfl, by kernel_rfl⟩
theorem e53 : CodeOk Try.prog 53 c53 := ⟨Try.f53, vm53, Try.func53, by kernel_rfl, by kernel_rfl⟩
theorem e54 : CodeOk Try.prog 54 c54 := ⟨Try.f54, vm54, Try.func54, by kernel_rfl, by kernel_rfl⟩
theorem e55 : CodeOk Try.prog 55 c55 := ⟨Try.f55, vm55, Try.func55, by kernel_rfl, by kernel_rfl⟩
theorem e56 : CodeOk Try.prog 56 c56 := ⟨Try.f56, vm56, Try.func56, by kernel_rfl, by kernel_rfl⟩
theorem e66 : CodeOk Try.prog 66 c66 := ⟨Try.f66, vm66, Try.func66, by kernel_rfl, by kernel_rfl⟩
theorem e67 : CodeOk Try.prog 67 c67 := ⟨Try.f67, vm67, Try.func67, by kernel_rfl, by kernel_rfl⟩
theorem e68 : CodeOk Try.prog 68 c68 := ⟨Try.f68, vm68, Try.func68, by kernel_rfl, by kernel_rfl⟩
theorem e69 : CodeOk Try.prog 69 c69 := ⟨Try.f69, vm69, Try.func69, by kernel_rfl, by kernel_rfl⟩
theorem e70 : CodeOk Try.prog 70 c70 := ⟨Try.f70, vm70, Try.func70, by kernel_rfl, by kernel_rfl⟩
theorem e71 : CodeOk Try.prog 71 c71 := ⟨Try.f71, vm71, Try.func71, by kernel_rfl, by kernel_rfl⟩
theorem e72 : CodeOk Try.prog 72 c72 := ⟨Try.f72, vm72, Try.func72, by kernel_rfl, by kernel_rfl⟩
theorem e73 : CodeOk Try.prog 73 c73 := ⟨Try.f73, vm73, Try.func73, by kernel_rfl, by kernel_rfl⟩
theorem e74 : CodeOk Try.prog 74 c74 := ⟨Try.f74, vm74, Try.func74, by kernel_rfl, by kernel_rfl⟩
theorem e75 : CodeOk Try.prog 75 c75 := ⟨Try.f75, vm75, Try.func75, by kernel_rfl, by kernel_rfl⟩
theorem e91 : CodeOk Try.prog 91 c91 := ⟨Try.f91, vm91, Try.func91, by kernel_rfl, by kernel_rfl⟩
theorem e92 : CodeOk Try.prog 92 c92 := ⟨Try.f92, vm92, Try.func92, by kernel_rfl, by kernel_rfl⟩
theorem e93 : CodeOk Try.prog 93 c93 := ⟨Try.f93, vm93, Try.func93, by kernel_rfl, by kernel_rfl⟩
theorem e94 : CodeOk Try.prog 94 c94 := ⟨Try.f94, vm94, Try.func94, by kernel_rfl, by kernel_rfl⟩
theorem e95 : CodeOk Try.prog 95 c95 := ⟨Try.f95, vm95, Try.func95, by kernel_rfl, by kernel_rfl⟩
theorem e96 : CodeOk Try.prog 96 c96 := ⟨Try.f96, vm96, Try.func96, by kernel_rfl, by kernel_rfl⟩
theorem e97 : CodeOk Try.prog 97 c97 := ⟨Try.f97, vm97, Try.func97, by kernel_rfl, by kernel_rfl⟩
theorem e98 : CodeOk Try.prog 98 c98 := ⟨Try.f98, vm98, Try.func98, by kernel_rfl, by kernel_rfl⟩
theorem e99 : CodeOk Try.prog 99 c99 := ⟨Try.f99, vm99, Try.func99, by kernel_rfl, by kernel_rfl⟩
theorem e100 : CodeOk Try.prog 100 c100 := ⟨Try.f100, vm100, Try.func100, by kernel_rfl, by kernel_rfl⟩
theorem e101 : CodeOk Try.prog 101 c101 := ⟨Try.f101, vm101, Try.func101, by kernel_rfl, by kernel_rfl⟩
theorem e102 : CodeOk Try.prog 102 c102 := ⟨Try.f102, vm102, Try.func102, by kernel_rfl, by kernel_rfl⟩
theorem e103 : CodeOk Try.prog 103 c103 := ⟨Try.f103, vm103, Try.func103, by kernel_rfl, by kernel_rfl⟩
theorem e104 : CodeOk Try.prog 104 c104 := ⟨Try.f104, vm104, Try.func104, by kernel_rfl, by kernel_rfl⟩
theorem e105 : CodeOk Try.prog 105 c105 := ⟨Try.f105, vm105, Try.func105, by kernel_rfl, by kernel_rfl⟩
theorem e106 : CodeOk Try.prog 106 c106 := ⟨Try.f106, vm106, Try.func106, by kernel_rfl, by kernel_rfl⟩
theorem e107 : CodeOk Try.prog 107 c107 := ⟨Try.f107, vm107, Try.func107, by kernel_rfl, by kernel_rfl⟩
theorem e108 : CodeOk Try.prog 108 c108 := ⟨Try.f108, vm108, Try.func108, by kernel_rfl, by kernel_rfl⟩
theorem e109 : CodeOk Try.prog 109 c109 := ⟨Try.f109, vm109, Try.func109, by kernel_rfl, by kernel_rfl⟩
theorem e110 : CodeOk Try.prog 110 c110 := ⟨Try.f110, vm110, Try.func110, by kernel_rfl, by kernel_rfl⟩
theorem e116 : CodeOk Try.prog 116 c116 := ⟨Try.f116, vm116, Try.func116, by kernel_rfl, by kernel_rfl⟩
theorem e117 : CodeOk Try.prog 117 c117 := ⟨Try.f117, vm117, Try.func117, by kernel_rfl, by kernel_rfl⟩
theorem e118 : CodeOk Try.prog 118 c118 := ⟨Try.f118, vm118, Try.func118, by kernel_rfl, by kernel_rfl⟩
theorem e130 : CodeOk Try.prog 130 c130 := ⟨Try.f130, vm130, Try.func130, by kernel_rfl, by kernel_rfl⟩
theorem e131 : CodeOk Try.prog 131 c131 := ⟨Try.f131, vm131, Try.func131, by kernel_rfl, by kernel_rfl⟩
theorem e132 : CodeOk Try.prog 132 c132 := ⟨Try.f132, vm132, Try.func132, by kernel_rfl, by kernel_rfl⟩
theorem e133 : CodeOk Try.prog 133 c133 := ⟨Try.f133, vm133, Try.func133, by kernel_rfl, by kernel_rfl⟩
theorem e134 : CodeOk Try.prog 134 c134 := ⟨Try.f134, vm134, Try.func134, by kernel_rfl, by kernel_rfl⟩
theorem e135 : CodeOk Try.prog 135 c135 := ⟨Try.f135, vm135, Try.func135, by kernel_rfl, by kernel_rfl⟩
theorem e137 : CodeOk Try.prog 137 c137 := ⟨Try.f137, vm137, Try.func137, by kernel_rfl, by kernel_rfl⟩
theorem e138 : CodeOk Try.prog 138 c138 := ⟨Try.f138, vm138, Try.func138, by kernel_rfl, by kernel_rfl⟩
theorem e140 : CodeOk Try.prog 140 c140 := ⟨Try.f140, vm140, Try.func140, by kernel_rfl, by kernel_rfl⟩
theorem e145 : CodeOk Try.prog 145 c145 := ⟨Try.f145, vm145, Try.func145, by kernel_rfl, by kernel_rfl⟩
theorem e153 : CodeOk Try.prog 153 c153 := ⟨Try.f153, vm153, Try.func153, by kernel_rfl, by kernel_rfl⟩
theorem e154 : CodeOk Try.prog 154 c154 := ⟨Try.f154, vm154, Try.func154, by kernel_rfl, by kernel_rfl⟩
theorem e156 : CodeOk Try.prog 156 c156 := ⟨Try.f156, vm156, Try.func156, by kernel_rfl, by kernel_rfl⟩
theorem e157 : CodeOk Try.prog 157 c157 := ⟨Try.f157, vm157, Try.func157, by kernel_rfl, by kernel_rfl⟩
theorem e173 : CodeOk Try.prog 173 c173 := ⟨Try.f173, vm173, Try.func173, by kernel_rfl, by kernel_rfl⟩
theorem e178 : CodeOk Try.prog 178 c178 := ⟨Try.f178, vm178, Try.func178, by kernel_rfl, by kernel_rfl⟩
theorem e179 : CodeOk Try.prog 179 c179 := ⟨Try.f179, vm179, Try.func179, by kernel_rfl, by kernel_rfl⟩
end Go.Absm.D
